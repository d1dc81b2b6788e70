/- MandateSpans of the program and of the reference: the joined spans of the valid mandates of an organization for a person, in an array of its own. Condition: no more than 2^40 mandates. -/
import Derived.Test.YtkdpfbodmfjkkaaRows
import Derived.Test.YtkdpfbodmfjkkaaPlain
import Derived.Test.YtkdpfbodmfjkkaaAppend
import Derived.Test.YtkdpfbodmfjkkaaCol
import Derived.Test.YtkdpfbodmfjkkaaCheckMandate
import Derived.Test.YtkdpfbodmfjkkaaJoin
namespace Go.Proofs.Ytkdpfbodmfjkkaa
open Go.RowKit

def isMan (ks ls : List (List Int)) (o p : Int) (k : Nat) : Bool := (fld ls k 0 == o) && (fld ls k 1 == p) && checkMandateB ks (fld ls k 0) (fld ls k 1) (fld ls k 2) (fld ls k 3) (fld ls k 4) (fld ls k 5)
def manL (ks ls : List (List Int)) (o p : Int) (k : Nat) : List (List Int) := ((List.range k).filter (isMan ks ls o p)).map fun i => [fld ls i 2, fld ls i 3]
theorem manL_yes {ks ls : List (List Int)} {o p : Int} {k : Nat} (h : isMan ks ls o p k = true) : manL ks ls o p (k + 1) = manL ks ls o p k ++ [[fld ls k 2, fld ls k 3]] := by
  simp [manL, List.range_succ, List.filter_append, h]
theorem manL_no {ks ls : List (List Int)} {o p : Int} {k : Nat} (h : isMan ks ls o p k = false) : manL ks ls o p (k + 1) = manL ks ls o p k := by
  simp [manL, List.range_succ, List.filter_append, h]
theorem manL_le (ks ls : List (List Int)) (o p : Int) (k : Nat) : (manL ks ls o p k).length ≤ k := by
  have := List.length_filter_le (isMan ks ls o p) (List.range k)
  simpa [manL] using this
theorem manL_two (ks ls : List (List Int)) (o p : Int) (k : Nat) : ∀ r ∈ manL ks ls o p k, r.length = 2 := by
  intro r hr
  unfold manL at hr
  obtain ⟨i, _, rfl⟩ := List.mem_map.1 hr
  rfl
def manS (ks ls : List (List Int)) (o p : Int) : List (List Int) := joinT (manL ks ls o p ls.length) (manL ks ls o p ls.length).length
theorem manS_facts (ks ls : List (List Int)) (o p : Int) : (∀ r ∈ manS ks ls o p, r.length = 2) ∧ (manS ks ls o p).length ≤ ls.length := by
  obtain ⟨h1, h2, -⟩ := join_facts (manL ks ls o p ls.length) (manL ks ls o p ls.length).length
  exact ⟨h1, Nat.le_trans h2 (manL_le _ _ _ _ _)⟩

set_option maxRecDepth 4000 in
set_option maxHeartbeats 8000000 in
theorem implMandateSpans_any {B : Nat} {ks ls : List (List Int)} {v u : Value} (o p : Int) (w : World) (h : Sl B w 5 v ks) (g : Sl B w 6 u ls) (hB : B ≤ w.heap.size) (hn : ls.length ≤ 1099511627776) :
    Calls Try.prog 83 #[v, u, iv o, iv p] w (RetOwn 47 2 (manS ks ls o p).length (flat (manS ks ls o p)) w) := by
  obtain ⟨A, c, rfl, hc1, hc2, -, hcell⟩ := g
  have HC := hid hcell
  have HV := hid h
  clear hcell h
  go_enter Try.func83, Try.ntmps83
  go_wp2
  go_loopw [9, 14] (fun l i wr => ∃ k : Nat, k ≤ ls.length ∧ i = .int .i64 k ∧ wr.ownsRow w.heap.size 47 2 l (manL ks ls o p k).length (flat (manL ks ls o p k)) ∧ Below w.heap.size w wr) (fun _ i _ => ls.length - (intOf i).toNat)
  case atStart => exact ⟨0, Nat.zero_le _, rfl, World.ownsRow_nil _ _ _ _, Below.refl _ _⟩
  case round =>
    obtain ⟨k, hk, rfl, how, hb⟩ := hrel
    by_cases hlt : k < ls.length
    · obtain ⟨b, off, rfl, hbB, hcc⟩ := HC.out (by omega)
      have c0 := cell_at hb hbB hB (hcc k 0 hlt (by omega))
      have c1 := cell_at hb hbB hB (hcc k 1 hlt (by omega))
      have c2 := cell_at hb hbB hB (hcc k 2 hlt (by omega))
      have c3 := cell_at hb hbB hB (hcc k 3 hlt (by omega))
      have c4 := cell_at hb hbB hB (hcc k 4 hlt (by omega))
      have c5 := cell_at hb hbB hB (hcc k 5 hlt (by omega))
      rw [Nat.add_zero] at c0
      have hle := manL_le ks ls o p k
      have hbw : b < wr.heap.size := by have := hb.size; omega
      have hi0 : (0 : Int) ≤ (k : Int) := Int.natCast_nonneg _
      have hi1 : (k : Int) < (ls.length : Int) := by omega
      have HS : Hid (∀ w' : World, Below w.heap.size w w' → (w'.cell? ⟨b, off + k * 6 + 2, none⟩ = some (iv (fld ls k 2)) ∧ w'.cell? ⟨b, off + k * 6 + 3, none⟩ = some (iv (fld ls k 3)))) := hid fun w' hx => ⟨cell_at hx hbB hB (hcc k 2 hlt (by omega)), cell_at hx hbB hB (hcc k 3 hlt (by omega))⟩
      have HOW := hid (how.alloc (.cells #[iv (fld ls k 0), iv (fld ls k 1), iv (fld ls k 2), iv (fld ls k 3), iv (fld ls k 4), iv (fld ls k 5)] 135))
      have HBL := hid (hb.alloc hb.size (.cells #[iv (fld ls k 0), iv (fld ls k 1), iv (fld ls k 2), iv (fld ls k 3), iv (fld ls k 4), iv (fld ls k 5)] 135))
      clear HC hcc hb how
      cases h0 : (fld ls k 0 == o)
      · skip
        have HT := hid (manL_no (show isMan ks ls o p k = false by simp [isMan, h0]))
        go_wp2
        go_roundw
        case rel => exact ⟨k + 1, by omega, by go_num, by rw [HT.out]; exact HOW.out, HBL.out⟩
        case measure => simp [intOf]; omega
      · cases h1 : (fld ls k 1 == p)
        · skip
          have HT := hid (manL_no (show isMan ks ls o p k = false by simp [isMan, h1]))
          go_wp2
          go_roundw
          case rel => exact ⟨k + 1, by omega, by go_num, by rw [HT.out]; exact HOW.out, HBL.out⟩
          case measure => simp [intOf]; omega
        · cases h2 : checkMandateB ks (fld ls k 0) (fld ls k 1) (fld ls k 2) (fld ls k 3) (fld ls k 4) (fld ls k 5)
          · skip
            have HT := hid (manL_no (show isMan ks ls o p k = false by simp [isMan, h2]))
            have HM : Hid (∀ (W : World), Sl B W 5 v ks → B ≤ W.heap.size → Calls Try.prog 84 #[v, .agg #[iv (fld ls k 0), iv (fld ls k 1), iv (fld ls k 2), iv (fld ls k 3), iv (fld ls k 4), iv (fld ls k 5)]] W (Ret (.bool false) W)) := hid fun W g1 g2 => by rw [← h2]; exact implCheckMandate_any _ _ _ _ _ _ W g1 g2
            clear h2
            go_wp2_with fail
            refine (HM.out _ (HV.out.below HBL.out hB) (Nat.le_trans hB HBL.out.size)).mono ?_
            rintro e w1 ⟨rfl, hb1⟩
            have HB1 := hid (below_step HBL.out hb1)
            have HO1 := hid (ownsRow_below HOW.out hb1 (fun g hg => (HOW.out.lt g hg).2))
            clear hb1 c0 c1 c2 c3 c4 c5
            go_wp2
            go_roundw
            case rel => exact ⟨k + 1, by omega, by go_num, by rw [HT.out]; exact HO1.out, HB1.out⟩
            case measure => simp [intOf]; omega
          · skip
            have HT := hid (manL_yes (show isMan ks ls o p k = true by simp [isMan, h0, h1, h2]))
            have HM : Hid (∀ (W : World), Sl B W 5 v ks → B ≤ W.heap.size → Calls Try.prog 84 #[v, .agg #[iv (fld ls k 0), iv (fld ls k 1), iv (fld ls k 2), iv (fld ls k 3), iv (fld ls k 4), iv (fld ls k 5)]] W (Ret (.bool true) W)) := hid fun W g1 g2 => by rw [← h2]; exact implCheckMandate_any _ _ _ _ _ _ W g1 g2
            clear h2
            go_wp2_with fail
            refine (HM.out _ (HV.out.below HBL.out hB) (Nat.le_trans hB HBL.out.size)).mono ?_
            rintro e w1 ⟨rfl, hb1⟩
            have HB1 := hid (below_step HBL.out hb1)
            have HO1 := hid (ownsRow_below HOW.out hb1 (fun g hg => (HOW.out.lt g hg).2))
            have d2 := (hb1.cell (p := ⟨wr.heap.size, 2, none⟩) (by simp)).trans (show _ = some (iv (fld ls k 2)) by simp [go_sem])
            have d3 := (hb1.cell (p := ⟨wr.heap.size, 3, none⟩) (by simp)).trans (show _ = some (iv (fld ls k 3)) by simp [go_sem])
            have hz1 := hb1.size
            have hbw1 : b < w1.heap.size := by simp at hz1; omega
            clear hb1 c0 c1 c2 c3 c4 c5
            go_wp2_with (first | (at_builtin; refine wpList_append_src _ rfl _ _ 43 rfl w.heap.size 47 Try.underlying43 Try.infoSpan rfl (by decide) _ _ (manL ks ls o p k).length 1 _ [iv (fld ls k 2), iv (fld ls k 3)] rfl rfl (HO1.out.alloc _) (Src.lit (cs := #[iv (fld ls k 2), iv (fld ls k 3)]) (m := 1) (size := 2) (heap_new_at w1 _ (by simp)) rfl (by simp [Value.oneCell']) 1) (by unfold maxLen; omega) (by omega) (HB1.out.alloc HB1.out.size _).size ?_; intro v1 w2 hown1 hg1; have HO2 := hid hown1; have HB2 := hid (below_grown (HB1.out.alloc HB1.out.size _) (HO1.out.alloc _) hg1 (Nat.le_refl _) (HB1.out.alloc HB1.out.size _).size); clear hown1 hg1) | fail)
            go_roundw
            case rel => exact ⟨k + 1, by omega, by go_num, by rw [HT.out, List.length_append, flat_append]; exact HO2.out, HB2.out⟩
            case measure => simp [intOf]; omega
    · obtain rfl : k = ls.length := by omega
      have HO := hid how
      have HBL := hid hb
      have hle := manL_le ks ls o p ls.length
      clear how hb HC
      go_wp2_with fail
      refine (implJoinAll_any _ ((Own.of HO.out).sl (manL_two ks ls o p ls.length)) (Nat.le_refl _) (by omega)).mono ?_
      rintro e w1 ⟨o1, rfl, ho1, hb1⟩
      have HO1 := hid (ho1.mono (lo' := w.heap.size) (hi' := w1.heap.size) HBL.out.size (Nat.le_refl _))
      have HB1 := hid (below_step HBL.out hb1)
      clear ho1 hb1
      go_wp2
      go_ret
      exact ⟨_, rfl, HO1.out, HB1.out⟩

set_option maxRecDepth 4000 in
set_option maxHeartbeats 8000000 in
theorem specMandateSpans_any {B : Nat} {ks ls : List (List Int)} {v u : Value} (o p : Int) (w : World) (h : Sl B w 5 v ks) (g : Sl B w 6 u ls) (hB : B ≤ w.heap.size) (hn : ls.length ≤ 1099511627776) :
    Calls Try.prog 148 #[v, u, iv o, iv p] w (RetOwn 47 2 (manS ks ls o p).length (flat (manS ks ls o p)) w) := by
  obtain ⟨A, c, rfl, hc1, hc2, -, hcell⟩ := g
  have HC := hid hcell
  have HV := hid h
  clear hcell h
  go_enter Try.func148, Try.ntmps148
  go_wp2
  go_loopw [9, 10] (fun l i wr => ∃ k : Nat, k ≤ ls.length ∧ i = .int .i64 k ∧ wr.ownsRow w.heap.size 47 2 l (manL ks ls o p k).length (flat (manL ks ls o p k)) ∧ Below w.heap.size w wr) (fun _ i _ => ls.length - (intOf i).toNat)
  case atStart => exact ⟨0, Nat.zero_le _, rfl, World.ownsRow_lit (base := w.heap.size) (e := 47) (size := 2) w #[] 0 (Nat.le_refl _) (by decide) rfl, below_alloc _ _⟩
  case round =>
    obtain ⟨k, hk, rfl, how, hb⟩ := hrel
    by_cases hlt : k < ls.length
    · obtain ⟨b, off, rfl, hbB, hcc⟩ := HC.out (by omega)
      have c0 := cell_at hb hbB hB (hcc k 0 hlt (by omega))
      have c1 := cell_at hb hbB hB (hcc k 1 hlt (by omega))
      have c2 := cell_at hb hbB hB (hcc k 2 hlt (by omega))
      have c3 := cell_at hb hbB hB (hcc k 3 hlt (by omega))
      have c4 := cell_at hb hbB hB (hcc k 4 hlt (by omega))
      have c5 := cell_at hb hbB hB (hcc k 5 hlt (by omega))
      rw [Nat.add_zero] at c0
      have hle := manL_le ks ls o p k
      have hbw : b < wr.heap.size := by have := hb.size; omega
      have hi0 : (0 : Int) ≤ (k : Int) := Int.natCast_nonneg _
      have hi1 : (k : Int) < (ls.length : Int) := by omega
      have HS : Hid (∀ w' : World, Below w.heap.size w w' → (w'.cell? ⟨b, off + k * 6 + 2, none⟩ = some (iv (fld ls k 2)) ∧ w'.cell? ⟨b, off + k * 6 + 3, none⟩ = some (iv (fld ls k 3)))) := hid fun w' hx => ⟨cell_at hx hbB hB (hcc k 2 hlt (by omega)), cell_at hx hbB hB (hcc k 3 hlt (by omega))⟩
      have HOW := hid how
      have HBL := hid hb
      clear HC hcc hb how
      cases h0 : (fld ls k 0 == o)
      · skip
        have HT := hid (manL_no (show isMan ks ls o p k = false by simp [isMan, h0]))
        go_wp2
        go_roundw
        case rel => exact ⟨k + 1, by omega, by go_num, by rw [HT.out]; exact HOW.out, HBL.out⟩
        case measure => simp [intOf]; omega
      · cases h1 : (fld ls k 1 == p)
        · skip
          have HT := hid (manL_no (show isMan ks ls o p k = false by simp [isMan, h1]))
          go_wp2
          go_roundw
          case rel => exact ⟨k + 1, by omega, by go_num, by rw [HT.out]; exact HOW.out, HBL.out⟩
          case measure => simp [intOf]; omega
        · cases h2 : checkMandateB ks (fld ls k 0) (fld ls k 1) (fld ls k 2) (fld ls k 3) (fld ls k 4) (fld ls k 5)
          · skip
            have HT := hid (manL_no (show isMan ks ls o p k = false by simp [isMan, h2]))
            have HM : Hid (∀ (W : World), Sl B W 5 v ks → B ≤ W.heap.size → Calls Try.prog 179 #[v, .agg #[iv (fld ls k 0), iv (fld ls k 1), iv (fld ls k 2), iv (fld ls k 3), iv (fld ls k 4), iv (fld ls k 5)]] W (Ret (.bool false) W)) := hid fun W g1 g2 => by rw [← h2]; exact specCheckMandate_any _ _ _ _ _ _ W g1 g2
            clear h2
            go_wp2_with fail
            refine (HM.out _ (HV.out.below HBL.out hB) (Nat.le_trans hB HBL.out.size)).mono ?_
            rintro e w1 ⟨rfl, hb1⟩
            have HB1 := hid (below_step HBL.out hb1)
            have HO1 := hid (ownsRow_below HOW.out hb1 (fun g hg => (HOW.out.lt g hg).2))
            clear hb1 c0 c1 c2 c3 c4 c5
            go_wp2
            go_roundw
            case rel => exact ⟨k + 1, by omega, by go_num, by rw [HT.out]; exact HO1.out, HB1.out⟩
            case measure => simp [intOf]; omega
          · skip
            have HT := hid (manL_yes (show isMan ks ls o p k = true by simp [isMan, h0, h1, h2]))
            have HM : Hid (∀ (W : World), Sl B W 5 v ks → B ≤ W.heap.size → Calls Try.prog 179 #[v, .agg #[iv (fld ls k 0), iv (fld ls k 1), iv (fld ls k 2), iv (fld ls k 3), iv (fld ls k 4), iv (fld ls k 5)]] W (Ret (.bool true) W)) := hid fun W g1 g2 => by rw [← h2]; exact specCheckMandate_any _ _ _ _ _ _ W g1 g2
            clear h2
            go_wp2_with fail
            refine (HM.out _ (HV.out.below HBL.out hB) (Nat.le_trans hB HBL.out.size)).mono ?_
            rintro e w1 ⟨rfl, hb1⟩
            have HB1 := hid (below_step HBL.out hb1)
            have HO1 := hid (ownsRow_below HOW.out hb1 (fun g hg => (HOW.out.lt g hg).2))
            have d2 := (hb1.cell (p := ⟨b, off + k * 6 + 2, none⟩) (by show b < _; omega)).trans c2
            have d3 := (hb1.cell (p := ⟨b, off + k * 6 + 3, none⟩) (by show b < _; omega)).trans c3
            have hz1 := hb1.size
            have hbw1 : b < w1.heap.size := by skip; omega
            clear hb1 c0 c1 c2 c3 c4 c5
            have HOA := hid ((HO1.out.alloc (.cells #[iv (fld ls k 2), iv (fld ls k 3)] 47)).drew)
            have HBA := hid ((HB1.out.alloc HB1.out.size (.cells #[iv (fld ls k 2), iv (fld ls k 3)] 47)).drew)
            have hzw : w.heap.size ≤ w1.heap.size := HB1.out.size
            go_wp2_with fail
            go_region_held3 (fun w' => w'.cell? ⟨b, off + k * 6 + 2, none⟩ = some (iv (fld ls k 2)) ∧ w'.cell? ⟨b, off + k * 6 + 3, none⟩ = some (iv (fld ls k 3))) (first | with_reducible exact HS.out _ HB1.out.drew | with_reducible exact HS.out _ HBA.out | with_reducible exact HS.out _ HB2.out | go_keep)
              (first | (refine step_append_src _ (by rfl) _ _ 43 (by rfl) w.heap.size 47 Try.underlying43 Try.infoSpan rfl (by decide) _ (.slice (some ⟨w1.heap.size, 0, none⟩) 1 1) (manL ks ls o p k).length 1 _ [iv (fld ls k 2), iv (fld ls k 3)] (by rfl) (by rfl) HOA.out (Src.drew (Src.lit (cs := #[iv (fld ls k 2), iv (fld ls k 3)]) (m := 1) (size := 2) (heap_new w1 _) rfl (by simp [Value.oneCell']) 1)) (by unfold maxLen; omega) (by omega) HBA.out.size ?_; intro v1 w2 hown1 hg1; have HO2 := hid hown1; have HB2 := hid (below_grown HBA.out HOA.out hg1 (Nat.le_refl _) HBA.out.size); clear hown1 hg1))
            go_wp2
            go_roundw
            case rel => exact ⟨k + 1, by omega, by go_num, by rw [HT.out, List.length_append, flat_append]; exact HO2.out, HB2.out⟩
            case measure => simp [intOf]; omega
    · obtain rfl : k = ls.length := by omega
      have HO := hid how
      have HBL := hid hb
      have hle := manL_le ks ls o p ls.length
      clear how hb HC
      go_wp2_with fail
      refine (specJoinAll_any _ ((Own.of HO.out).sl (manL_two ks ls o p ls.length)) (Nat.le_refl _) (by omega)).mono ?_
      rintro e w1 ⟨o1, rfl, ho1, hb1⟩
      have HO1 := hid (ho1.mono (lo' := w.heap.size) (hi' := w1.heap.size) HBL.out.size (Nat.le_refl _))
      have HB1 := hid (below_step HBL.out hb1)
      clear ho1 hb1
      go_wp2
      go_ret
      exact ⟨_, rfl, HO1.out, HB1.out⟩

end Go.Proofs.Ytkdpfbodmfjkkaa
