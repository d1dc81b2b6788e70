/- ends, GoodUntil, BadFrom and IsAgreed return what the plain functions say. No condition. -/
import Derived.Test.YtkdpfbodmfjkkaaRows
import Derived.Test.YtkdpfbodmfjkkaaPlain
namespace Go.Proofs.Ytkdpfbodmfjkkaa
open Go.RowKit

set_option maxHeartbeats 4000000 in
theorem implends_any {B : Nat} {ks : List (List Int)} {v : Value} (s : Int) (w : World) (h : Sl B w 5 v ks) (hB : B ≤ w.heap.size) :
    Calls Try.prog 124 #[v, iv s] w (Ret (.tuple #[iv (lstTo ks s ks.length), iv (mostTo ks s ks.length), iv (goodTo ks s ks.length)]) w) := by
  obtain ⟨A, c, rfl, hc1, hc2, -, hcell⟩ := h
  have HC := hid hcell
  clear hcell
  go_enter Try.func124, Try.ntmps124
  go_wp2
  go_loopw [7, 8, 9, 14] (fun a b g i wr => ∃ k : Nat, k ≤ ks.length ∧ i = .int .i64 k ∧ a = .int .i64 (lstTo ks s k) ∧ b = .int .i64 (mostTo ks s k) ∧ g = .int .i64 (goodTo ks s k) ∧ Below w.heap.size w wr) (fun _ _ _ i _ => ks.length - (intOf i).toNat)
  case atStart => exact ⟨0, Nat.zero_le _, rfl, rfl, rfl, rfl, Below.refl _ _⟩
  case round =>
    obtain ⟨k, hk, rfl, rfl, rfl, rfl, hb⟩ := hrel
    by_cases hlt : k < ks.length
    · obtain ⟨b, off, rfl, hbB, hcc⟩ := HC.out (by omega)
      have c0 := cell_at hb hbB hB (hcc k 0 hlt (by omega))
      have c1 := cell_at hb hbB hB (hcc k 1 hlt (by omega))
      have c2 := cell_at hb hbB hB (hcc k 2 hlt (by omega))
      have c3 := cell_at hb hbB hB (hcc k 3 hlt (by omega))
      have c4 := cell_at hb hbB hB (hcc k 4 hlt (by omega))
      rw [Nat.add_zero] at c0
      have HB := hid (hb.alloc hb.size (.cells #[iv (fld ks k 0), iv (fld ks k 1), iv (fld ks k 2), iv (fld ks k 3), iv (fld ks k 4)] 89))
      clear HC hcc hb
      cases hs : (fld ks k 0 == s)
      · have hs' : (fld ks k 0 != s) = true := by simp [bne, hs]
        have HT := hid (ans_other hs)
        go_wp2
        go_roundw
        case rel => exact ⟨k + 1, by omega, by go_num, by rw [HT.out.1], by rw [HT.out.2.1], by rw [HT.out.2.2], HB.out⟩
        case measure => simp [intOf]; omega
      · have hs' : (fld ks k 0 != s) = false := by simp [bne, hs]
        by_cases h2 : fld ks k 2 < 0
        · have HT := hid (ans_good hs h2)
          by_cases hm : goodTo ks s k < fld ks k 1
          · have HM := hid (mx_lt hm)
            have HX := hid (Int.max_eq_right (Int.le_of_lt hm))
            go_wp2
            go_roundw
            case rel => exact ⟨k + 1, by omega, by go_num, by rw [HT.out.1], by rw [HT.out.2.1], (by rw [HT.out.2.2, HM.out]; (try first | rfl | rw [HX.out])), HB.out⟩
            case measure => simp [intOf]; omega
          · have hm2 : fld ks k 1 ≤ goodTo ks s k := by omega
            have HM := hid (mx_ge hm2)
            have HX := hid (Int.max_eq_left hm2)
            go_wp2
            go_roundw
            case rel => exact ⟨k + 1, by omega, by go_num, by rw [HT.out.1], by rw [HT.out.2.1], (by rw [HT.out.2.2, HM.out]; (try first | rfl | rw [HX.out])), HB.out⟩
            case measure => simp [intOf]; omega
        · have h2' : 0 ≤ fld ks k 2 := by omega
          have HT := hid (ans_bad hs h2')
          have hl0 := lstTo_bd ks s k
          by_cases hm : mostTo ks s k < fld ks k 2
          · have HM := hid (mx_lt hm)
            have HX := hid (Int.max_eq_right (Int.le_of_lt hm))
            by_cases hl : lstTo ks s k < 0
            · have HL := hid (ans_less hs h2' (.inl hl))
              go_wp2
              go_roundw
              case rel => exact ⟨k + 1, by omega, by go_num, by rw [HL.out], (by rw [HT.out.1, HM.out]; (try first | rfl | rw [HX.out])), by rw [HT.out.2], HB.out⟩
              case measure => simp [intOf]; omega
            · by_cases hl2 : fld ks k 2 < lstTo ks s k
              · have HL := hid (ans_less hs h2' (.inr hl2))
                go_wp2
                go_roundw
                case rel => exact ⟨k + 1, by omega, by go_num, by rw [HL.out], (by rw [HT.out.1, HM.out]; (try first | rfl | rw [HX.out])), by rw [HT.out.2], HB.out⟩
                case measure => simp [intOf]; omega
              · have HL := hid (ans_stay (ks := ks) (k := k) (s := s) (by omega))
                go_wp2
                go_roundw
                case rel => exact ⟨k + 1, by omega, by go_num, by rw [HL.out], (by rw [HT.out.1, HM.out]; (try first | rfl | rw [HX.out])), by rw [HT.out.2], HB.out⟩
                case measure => simp [intOf]; omega
          · have hm2 : fld ks k 2 ≤ mostTo ks s k := by omega
            have HM := hid (mx_ge hm2)
            have HX := hid (Int.max_eq_left hm2)
            by_cases hl : lstTo ks s k < 0
            · have HL := hid (ans_less hs h2' (.inl hl))
              go_wp2
              go_roundw
              case rel => exact ⟨k + 1, by omega, by go_num, by rw [HL.out], (by rw [HT.out.1, HM.out]; (try first | rfl | rw [HX.out])), by rw [HT.out.2], HB.out⟩
              case measure => simp [intOf]; omega
            · by_cases hl2 : fld ks k 2 < lstTo ks s k
              · have HL := hid (ans_less hs h2' (.inr hl2))
                go_wp2
                go_roundw
                case rel => exact ⟨k + 1, by omega, by go_num, by rw [HL.out], (by rw [HT.out.1, HM.out]; (try first | rfl | rw [HX.out])), by rw [HT.out.2], HB.out⟩
                case measure => simp [intOf]; omega
              · have HL := hid (ans_stay (ks := ks) (k := k) (s := s) (by omega))
                go_wp2
                go_roundw
                case rel => exact ⟨k + 1, by omega, by go_num, by rw [HL.out], (by rw [HT.out.1, HM.out]; (try first | rfl | rw [HX.out])), by rw [HT.out.2], HB.out⟩
                case measure => simp [intOf]; omega
    · obtain rfl : k = ks.length := by omega
      have HB := hid hb
      clear hb
      go_wp2
      go_ret3
      exact ⟨rfl, HB.out⟩



set_option maxHeartbeats 1000000 in
theorem implGoodUntil_any {B : Nat} {ks : List (List Int)} {v : Value} (s : Int) (w : World) (h : Sl B w 5 v ks) (hB : B ≤ w.heap.size) :
    Calls Try.prog 55 #[v, iv s] w (Ret (iv (goodUntil ks s)) w) := by
  have hl0 := lstTo_bd ks s ks.length
  by_cases hl : lstTo ks s ks.length < 0
  · have HL := hid (goodUntil_neg hl)
    go_enter Try.func55, Try.ntmps55
    go_wp2_with (go_at_call 124; refine (implends_any _ _ h hB).mono ?_; rintro e w1 ⟨rfl, hb1⟩; have HB1 := hid hb1; clear hb1)
    go_ret
    exact ⟨ret_int HL.out, HB1.out⟩
  · have hl2 : 0 ≤ lstTo ks s ks.length := by omega
    have HL := hid (goodUntil_pos hl2)
    go_enter Try.func55, Try.ntmps55
    go_wp2_with (go_at_call 124; refine (implends_any _ _ h hB).mono ?_; rintro e w1 ⟨rfl, hb1⟩; have HB1 := hid hb1; clear hb1)
    go_ret
    exact ⟨ret_int HL.out, HB1.out⟩
set_option maxHeartbeats 1000000 in
theorem implBadFrom_any {B : Nat} {ks : List (List Int)} {v : Value} (s : Int) (w : World) (h : Sl B w 5 v ks) (hB : B ≤ w.heap.size) :
    Calls Try.prog 56 #[v, iv s] w (Ret (iv (badFrom ks s)) w) := by
  by_cases hl : mostTo ks s ks.length < 0
  · have HL := hid (badFrom_neg hl)
    go_enter Try.func56, Try.ntmps56
    go_wp2_with (go_at_call 124; refine (implends_any _ _ h hB).mono ?_; rintro e w1 ⟨rfl, hb1⟩; have HB1 := hid hb1; clear hb1)
    go_ret
    exact ⟨ret_int HL.out, HB1.out⟩
  · have hl2 : 0 ≤ mostTo ks s ks.length := by omega
    have HL := hid (badFrom_pos hl2)
    go_enter Try.func56, Try.ntmps56
    go_wp2_with (go_at_call 124; refine (implends_any _ _ h hB).mono ?_; rintro e w1 ⟨rfl, hb1⟩; have HB1 := hid hb1; clear hb1)
    · go_ret
      exact ⟨ret_int (by rw [← HL.out, mx_lt (by omega)]), HB1.out⟩
    · go_ret
      exact ⟨ret_int (by rw [← HL.out, mx_ge (by omega)]), HB1.out⟩

set_option maxHeartbeats 1000000 in
theorem implIsAgreed_any {B : Nat} {ks : List (List Int)} {v : Value} (s : Int) (w : World) (h : Sl B w 5 v ks) (hB : B ≤ w.heap.size) :
    Calls Try.prog 61 #[v, iv s] w (Ret (.bool (agreedB ks s)) w) := by
  go_enter Try.func61, Try.ntmps61
  go_wp2_with fail
  refine (implBadFrom_any _ _ h hB).mono ?_
  rintro e w1 ⟨rfl, hb1⟩
  have h1 := h.below hb1 hB
  cases hx : (badFrom ks s == 10001)
  · have HT := hid (agreedB_no hx)
    go_wp2_with (go_at_call 55; refine (implGoodUntil_any _ _ h1 (Nat.le_trans hB hb1.size)).mono ?_; rintro e w2 ⟨rfl, hb2⟩; have HB2 := hid (below_step hb1 hb2); clear hb2)
    go_ret
    exact ⟨ret_bool HT.out, HB2.out⟩
  · have HT := hid (agreedB_yes hx)
    go_wp2
    go_ret
    exact ⟨ret_bool HT.out, hb1⟩


end Go.Proofs.Ytkdpfbodmfjkkaa
