/- JoinAll of the program and of the reference: the valid spans joined, in an array of its own. Condition: the list is no longer than 2^40. -/
import Derived.Test.YtkdpfbodmfjkkaaRows
import Derived.Test.YtkdpfbodmfjkkaaPlain
import Derived.Test.YtkdpfbodmfjkkaaPlainJoin
import Derived.Test.YtkdpfbodmfjkkaaAppend
import Derived.Test.YtkdpfbodmfjkkaaSlices
import Derived.Test.YtkdpfbodmfjkkaaPut
namespace Go.Proofs.Ytkdpfbodmfjkkaa
open Go.RowKit

set_option maxHeartbeats 4000000 in
theorem specJoinAll_any {B : Nat} {ls : List (List Int)} {v : Value} (w : World) (h : Sl B w 2 v ls) (hB : B ≤ w.heap.size) (hn : ls.length ≤ 1099511627776) :
    Calls Try.prog 177 #[v] w (RetOwn 47 2 (joinT ls ls.length).length (flat (joinT ls ls.length)) w) := by
  obtain ⟨A, c, rfl, hc1, hc2, -, hcell⟩ := h
  have HC := hid hcell
  clear hcell
  go_enter Try.func177, Try.ntmps177
  go_wp2
  go_loopw [3, 4] (fun l i wr => ∃ k : Nat, k ≤ ls.length ∧ i = .int .i64 k ∧ wr.ownsRow w.heap.size 47 2 l (joinT ls k).length (flat (joinT ls k)) ∧ Below w.heap.size w wr) (fun _ i _ => ls.length - (intOf i).toNat)
  case atStart => exact ⟨0, Nat.zero_le _, rfl, World.ownsRow_lit (base := w.heap.size) (e := 47) (size := 2) w #[] 0 (Nat.le_refl _) (by decide) rfl, below_alloc _ _⟩
  case round =>
    obtain ⟨k, hk, rfl, how, hb⟩ := hrel
    have HOW := hid how
    have HBL := hid hb
    clear how
    by_cases hlt : k < ls.length
    · obtain ⟨b, off, rfl, hbB, hcc⟩ := HC.out (by omega)
      have HCC : Hid (∀ w1 : World, Below w.heap.size w w1 → w1.cell? ⟨b, off + k * 2, none⟩ = some (iv (fld ls k 0)) ∧ w1.cell? ⟨b, off + k * 2 + 1, none⟩ = some (iv (fld ls k 1))) := hid fun w1 hx => ⟨cell_at hx hbB hB (hcc k 0 hlt (by omega)), cell_at hx hbB hB (hcc k 1 hlt (by omega))⟩
      obtain ⟨c0, c1⟩ := HCC.out _ hb
      clear HC hcc hb
      cases h0 : spanB (fld ls k 0) (fld ls k 1)
      · have HS : Hid (∀ W : World, Calls Try.prog 146 #[.agg #[iv (fld ls k 0), iv (fld ls k 1)]] W (Ret (.bool false) W)) := hid fun W => by rw [← h0]; exact specIsSpan_any _ _ W
        have HT := hid (join_no h0)
        clear h0
        go_wp2_with fail
        refine (HS.out _).mono ?_
        rintro e w1 ⟨rfl, hb1⟩
        have HB1 := hid (below_step HBL.out hb1)
        have HO1 := hid (ownsRow_below HOW.out hb1 (fun g hg => (HOW.out.lt g hg).2))
        clear hb1 c0 c1
        go_wp2
        go_roundw
        case rel => exact ⟨k + 1, by omega, by go_num, by rw [HT.out]; exact HO1.out, HB1.out⟩
        case measure => simp [intOf]; omega
      · have HS : Hid (∀ W : World, Calls Try.prog 146 #[.agg #[iv (fld ls k 0), iv (fld ls k 1)]] W (Ret (.bool true) W)) := hid fun W => by rw [← h0]; exact specIsSpan_any _ _ W
        have HT := hid (join_yes h0)
        obtain ⟨x1, x2, x3⟩ := spanB_iff.1 h0
        obtain ⟨f1, f2, f3⟩ := join_facts ls k
        have HF := hid (And.intro f1 f3)
        clear h0 f1 f3
        go_wp2_with fail
        refine (HS.out _).mono ?_
        rintro e w1 ⟨rfl, hb1⟩
        have HB1 := hid (below_step HBL.out hb1)
        have HO1 := hid (ownsRow_below HOW.out hb1 (fun g hg => (HOW.out.lt g hg).2))
        obtain ⟨d0, d1⟩ := HCC.out _ HB1.out
        clear hb1 c0 c1
        go_wp2_with fail
        refine (specl4Put_any _ _ _ ((Own.of HO1.out).sl HF.out.1) (Nat.le_refl _) HF.out.2 x1 x2 x3 (by omega)).mono ?_
        rintro e w2 ⟨o2, rfl, ho2, hb2⟩
        have HB2 := hid (below_step HB1.out hb2)
        have HO2 := hid ((ho2.mono (lo' := w.heap.size) (hi' := w2.heap.size) HB1.out.size (Nat.le_refl _)).1)
        clear ho2 hb2 d0 d1
        go_wp2
        go_roundw
        case rel => exact ⟨k + 1, by omega, by go_num, by rw [HT.out]; exact HO2.out, HB2.out⟩
        case measure => simp [intOf]; omega
    · obtain rfl : k = ls.length := by omega
      clear hb HC
      go_wp2
      go_ret
      exact ⟨_, rfl, Own.of HOW.out, HBL.out⟩

set_option maxRecDepth 8000 in
set_option maxHeartbeats 16000000 in
theorem implJoinAll_any {B : Nat} {ls : List (List Int)} {v : Value} (w : World) (h : Sl B w 2 v ls) (hB : B ≤ w.heap.size) (hn : ls.length ≤ 1099511627776) :
    Calls Try.prog 149 #[v] w (RetOwn 47 2 (joinT ls ls.length).length (flat (joinT ls ls.length)) w) := by
  obtain ⟨A, c, rfl, hc1, hc2, -, hcell⟩ := h
  have HC := hid hcell
  clear hcell
  go_enter Try.func149, Try.ntmps149
  go_wp2
  go_loopw [3, 12] (fun l i wr => ∃ k : Nat, k ≤ ls.length ∧ i = .int .i64 k ∧ wr.ownsRow w.heap.size 47 2 l (joinT ls k).length (flat (joinT ls k)) ∧ Below w.heap.size w wr) (fun _ i _ => ls.length - (intOf i).toNat)
  case atStart => exact ⟨0, Nat.zero_le _, rfl, World.ownsRow_nil _ _ _ _, Below.refl _ _⟩
  case round =>
    obtain ⟨k0, hk0l, rfl, how, hb⟩ := hrel
    have HOW := hid how
    have HBL := hid hb
    clear how
    by_cases hlt0 : k0 < ls.length
    rotate_left
    · obtain rfl : k0 = ls.length := by omega
      clear hb HC
      go_wp2
      go_ret
      exact ⟨_, rfl, Own.of HOW.out, HBL.out⟩
    obtain ⟨b, off, rfl, hbB, hcc⟩ := HC.out (by omega)
    have c0 := cell_at hb hbB hB (hcc k0 0 hlt0 (by omega))
    have c1 := cell_at hb hbB hB (hcc k0 1 hlt0 (by omega))
    rw [Nat.add_zero] at c0
    clear HC hcc hb
    cases h0 : spanB (fld ls k0 0) (fld ls k0 1)
    · have HS : Hid (∀ W : World, Calls Try.prog 31 #[.agg #[iv (fld ls k0 0), iv (fld ls k0 1)]] W (Ret (.bool false) W)) := hid fun W => by rw [← h0]; exact implIsSpan_any _ _ W
      have HT := hid (join_no h0)
      clear h0
      go_wp2_with fail
      refine (HS.out _).mono ?_
      rintro e w1 ⟨rfl, hb1⟩
      have HB1 := hid (below_step (HBL.out.alloc HBL.out.size (.cells #[iv (fld ls k0 0), iv (fld ls k0 1)] 47)) hb1)
      have HO1 := hid (ownsRow_below (HOW.out.alloc (.cells #[iv (fld ls k0 0), iv (fld ls k0 1)] 47)) hb1 (fun g hg => ((HOW.out.alloc (.cells #[iv (fld ls k0 0), iv (fld ls k0 1)] 47)).lt g hg).2))
      clear hb1 c0 c1
      go_wp2
      go_roundw
      case rel => exact ⟨k0 + 1, by omega, by go_num, by rw [HT.out]; exact HO1.out, HB1.out⟩
      case measure => simp [intOf]; omega
    have HS : Hid (∀ W : World, Calls Try.prog 31 #[.agg #[iv (fld ls k0 0), iv (fld ls k0 1)]] W (Ret (.bool true) W)) := hid fun W => by rw [← h0]; exact implIsSpan_any _ _ W
    have HJT := hid (join_yes h0)
    obtain ⟨x1, x2, x3⟩ := spanB_iff.1 h0
    obtain ⟨f1, f2, f3⟩ := join_facts ls k0
    have HF := hid (And.intro f1 f3)
    clear h0 f1 f3
    go_wp2_with fail
    refine (HS.out _).mono ?_
    rintro e w1 ⟨rfl, hb1⟩
    have HB1 := hid (below_step (HBL.out.alloc HBL.out.size (.cells #[iv (fld ls k0 0), iv (fld ls k0 1)] 47)) hb1)
    have HBX0 := hid ((Box2.new wr (fld ls k0 0) (fld ls k0 1) 47).below hb1)
    have HSO := hid (((Own.of HOW.out).sl HF.out.1).below (below_step (below_alloc _ _) hb1) (Nat.le_refl _))
    obtain ⟨bs, hbs⟩ : ∃ bs, bs = wr.heap.size := ⟨_, rfl⟩
    have hwb : w.heap.size ≤ bs := by rw [hbs]; exact HBL.out.size
    have hb1w : bs < w1.heap.size := by rw [hbs]; exact HBX0.out.1
    rw [← hbs] at HBX0 HSO ⊢
    clear hb1 hbs c0 c1 HOW
    obtain ⟨ks, hks⟩ : ∃ ks, ks = joinT ls k0 := ⟨_, rfl⟩
    obtain ⟨f, hf0⟩ : ∃ f, f = fld ls k0 0 := ⟨_, rfl⟩
    obtain ⟨t, ht0⟩ : ∃ t, t = fld ls k0 1 := ⟨_, rfl⟩
    rw [← hks, ← hf0, ← ht0] at HJT
    rw [← hks] at HSO HF f2
    rw [← hf0, ← ht0] at HBX0
    rw [← hf0] at x1 x2
    rw [← ht0] at x2 x3
    clear hks hf0 ht0 HS HBL
    have HG := hid (fun k hk => scan_good (f := f) (t := t) HF.out.2 x1 x2 x3 k hk)
    obtain ⟨A6, c6, rfl, hc16, hc26, -, hcell6⟩ := id HSO.out
    have HC6 := hid hcell6
    clear hcell6
    go_wp2
    go_loopw [6, 21] (fun l i wr => ∃ k : Nat, k ≤ ks.length ∧ i = .int .i64 k ∧ wr.ownsRow (bs + 1) 47 2 l (scR ks f t k).length (flat (scR ks f t k)) ∧ Box2 bs wr (scF ks f t k) (scT ks f t k) ∧ Below bs w1 wr) (fun _ i _ => ks.length - (intOf i).toNat)
    case atStart => exact ⟨0, Nat.zero_le _, rfl, World.ownsRow_nil _ _ _ _, HBX0.out, Below.refl _ _⟩
    case round =>
      obtain ⟨k, hk, rfl, how, hbx, hb⟩ := hrel
      have HOW := hid how
      have HBX := hid hbx
      have HBL := hid hb
      clear how hbx
      by_cases hlt : k < ks.length
      · obtain ⟨b, off, rfl, hbB, hcc⟩ := HC6.out (by omega)
        have c0 := cell_at hb hbB (Nat.le_refl _) (hcc k 0 hlt (by omega))
        have c1 := cell_at hb hbB (Nat.le_refl _) (hcc k 1 hlt (by omega))
        rw [Nat.add_zero] at c0
        obtain ⟨hz, s0, s1, z0, z1⟩ := HBX.out
        obtain ⟨-, g1, g2, g3⟩ := HG.out k hk
        obtain ⟨e1, e2, e3⟩ := HF.out.2 k hlt
        have hle := scR_len ks f t k
        have hbw : b < wr.heap.size := by omega
        have hB1 := hid (HBL.out.alloc (Nat.le_of_lt hz) (.cells #[iv (fld ks k 0), iv (fld ks k 1)] 47))
        have HB2 := hid (HBX.out.below (below_alloc wr (.cells #[iv (fld ks k 0), iv (fld ks k 1)] 47)))
        have HO1 := hid (HOW.out.alloc (.cells #[iv (fld ks k 0), iv (fld ks k 1)] 47))
        clear HC6 hcc hb HG
        by_cases ha : fld ks k 1 + 1 < scF ks f t k ∨ scT ks f t k + 1 < fld ks k 0
        · have HT := hid (sc_apart ha)
          by_cases ha1 : fld ks k 1 + 1 < scF ks f t k
          · clear ha
            go_wp2_with (first | (at_builtin; refine wpList_append_src _ rfl _ _ 43 rfl (bs + 1) 47 Try.underlying43 Try.infoSpan rfl (by decide) _ _ (scR ks f t k).length 1 _ [iv (fld ks k 0), iv (fld ks k 1)] rfl rfl (HO1.out.alloc _) (Src.lit (cs := #[iv (fld ks k 0), iv (fld ks k 1)]) (m := 1) (size := 2) (heap_new_at (wr.alloc (.cells #[iv (fld ks k 0), iv (fld ks k 1)] 47)) _ (by simp)) rfl (by simp [Value.oneCell']) 1) (by unfold maxLen; omega) (by omega) (by simp; omega) ?_; intro v1 w2 hown1 hg1; have HP1 := hid hown1; have HB3 := hid ((HB2.out.below (below_alloc _ _)).grown hg1 (row_ne HO1.out (by simp))); have HW2 := hid (below_grown (hB1.out.alloc (by simp; omega) _) (HO1.out.alloc _) hg1 (by simp) (by simp; omega)); clear hown1 hg1) | fail)
            go_roundw
            case rel => exact ⟨k + 1, by omega, by go_num, by rw [HT.out.1, List.length_append, flat_append]; exact HP1.out, by rw [HT.out.2.1, HT.out.2.2]; exact HB3.out, HW2.out⟩
            case measure => simp [intOf]; omega
          · have ha2 : scT ks f t k + 1 < fld ks k 0 := by omega
            clear ha
            go_wp2_with (first | (at_builtin; refine wpList_append_src _ rfl _ _ 43 rfl (bs + 1) 47 Try.underlying43 Try.infoSpan rfl (by decide) _ _ (scR ks f t k).length 1 _ [iv (fld ks k 0), iv (fld ks k 1)] rfl rfl (HO1.out.alloc _) (Src.lit (cs := #[iv (fld ks k 0), iv (fld ks k 1)]) (m := 1) (size := 2) (heap_new_at (wr.alloc (.cells #[iv (fld ks k 0), iv (fld ks k 1)] 47)) _ (by simp)) rfl (by simp [Value.oneCell']) 1) (by unfold maxLen; omega) (by omega) (by simp; omega) ?_; intro v1 w2 hown1 hg1; have HP1 := hid hown1; have HB3 := hid ((HB2.out.below (below_alloc _ _)).grown hg1 (row_ne HO1.out (by simp))); have HW2 := hid (below_grown (hB1.out.alloc (by simp; omega) _) (HO1.out.alloc _) hg1 (by simp) (by simp; omega)); clear hown1 hg1) | fail)
            go_roundw
            case rel => exact ⟨k + 1, by omega, by go_num, by rw [HT.out.1, List.length_append, flat_append]; exact HP1.out, by rw [HT.out.2.1, HT.out.2.2]; exact HB3.out, HW2.out⟩
            case measure => simp [intOf]; omega
        · have ht1 : scF ks f t k ≤ fld ks k 1 + 1 := by omega
          have ht2 : fld ks k 0 ≤ scT ks f t k + 1 := by omega
          have HT := hid (sc_touch ht1 ht2)
          clear ha HB2 HO1 hB1
          by_cases m0 : fld ks k 0 < scF ks f t k
          · have E0 := hid (show min (scF ks f t k) (fld ks k 0) = fld ks k 0 by omega)
            by_cases m1 : scT ks f t k < fld ks k 1
            · have E1 := hid (show max (scT ks f t k) (fld ks k 1) = fld ks k 1 by omega)
              have HB3 := hid ((HBX.out.set (fld ks k 0) (fld ks k 1)).below (below_alloc _ (.cells #[iv (fld ks k 0), iv (fld ks k 1)] 47)))
              have HO2 := hid ((ownsRow_set (ownsRow_set HOW.out (p := ⟨bs, 0, none⟩) (by simp) (iv (fld ks k 0))) (p := ⟨bs, 1, none⟩) (by simp) (iv (fld ks k 1))).alloc (.cells #[iv (fld ks k 0), iv (fld ks k 1)] 47))
              have HW2 := hid (((HBL.out.setCell (p := ⟨bs, 0, none⟩) (by simp) (iv (fld ks k 0))).setCell (p := ⟨bs, 1, none⟩) (by simp) (iv (fld ks k 1))).alloc (by simp; omega) (.cells #[iv (fld ks k 0), iv (fld ks k 1)] 47))
              clear HBX HOW HBL
              go_wp2
              go_roundw
              case rel => exact ⟨k + 1, by omega, by go_num, by rw [HT.out.1]; exact HO2.out, by rw [HT.out.2.1, HT.out.2.2, E0.out, E1.out]; exact HB3.out, HW2.out⟩
              case measure => simp [intOf]; omega
            · have E1 := hid (show max (scT ks f t k) (fld ks k 1) = scT ks f t k by omega)
              have m1p : fld ks k 1 ≤ scT ks f t k := by omega
              clear m1
              have HB3 := hid ((HBX.out.set (fld ks k 0) (scT ks f t k)).below (below_alloc _ (.cells #[iv (fld ks k 0), iv (fld ks k 1)] 47)))
              have HO2 := hid ((ownsRow_set (ownsRow_set HOW.out (p := ⟨bs, 0, none⟩) (by simp) (iv (fld ks k 0))) (p := ⟨bs, 1, none⟩) (by simp) (iv (scT ks f t k))).alloc (.cells #[iv (fld ks k 0), iv (fld ks k 1)] 47))
              have HW2 := hid (((HBL.out.setCell (p := ⟨bs, 0, none⟩) (by simp) (iv (fld ks k 0))).setCell (p := ⟨bs, 1, none⟩) (by simp) (iv (scT ks f t k))).alloc (by simp; omega) (.cells #[iv (fld ks k 0), iv (fld ks k 1)] 47))
              clear HBX HOW HBL
              go_wp2
              go_roundw
              case rel => exact ⟨k + 1, by omega, by go_num, by rw [HT.out.1]; exact HO2.out, by rw [HT.out.2.1, HT.out.2.2, E0.out, E1.out]; exact HB3.out, HW2.out⟩
              case measure => simp [intOf]; omega
          · have E0 := hid (show min (scF ks f t k) (fld ks k 0) = scF ks f t k by omega)
            have m0p : scF ks f t k ≤ fld ks k 0 := by omega
            clear m0
            by_cases m1 : scT ks f t k < fld ks k 1
            · have E1 := hid (show max (scT ks f t k) (fld ks k 1) = fld ks k 1 by omega)
              have HB3 := hid ((HBX.out.set (scF ks f t k) (fld ks k 1)).below (below_alloc _ (.cells #[iv (fld ks k 0), iv (fld ks k 1)] 47)))
              have HO2 := hid ((ownsRow_set (ownsRow_set HOW.out (p := ⟨bs, 0, none⟩) (by simp) (iv (scF ks f t k))) (p := ⟨bs, 1, none⟩) (by simp) (iv (fld ks k 1))).alloc (.cells #[iv (fld ks k 0), iv (fld ks k 1)] 47))
              have HW2 := hid (((HBL.out.setCell (p := ⟨bs, 0, none⟩) (by simp) (iv (scF ks f t k))).setCell (p := ⟨bs, 1, none⟩) (by simp) (iv (fld ks k 1))).alloc (by simp; omega) (.cells #[iv (fld ks k 0), iv (fld ks k 1)] 47))
              clear HBX HOW HBL
              go_wp2
              go_roundw
              case rel => exact ⟨k + 1, by omega, by go_num, by rw [HT.out.1]; exact HO2.out, by rw [HT.out.2.1, HT.out.2.2, E0.out, E1.out]; exact HB3.out, HW2.out⟩
              case measure => simp [intOf]; omega
            · have E1 := hid (show max (scT ks f t k) (fld ks k 1) = scT ks f t k by omega)
              have m1p : fld ks k 1 ≤ scT ks f t k := by omega
              clear m1
              have HB3 := hid ((HBX.out.set (scF ks f t k) (scT ks f t k)).below (below_alloc _ (.cells #[iv (fld ks k 0), iv (fld ks k 1)] 47)))
              have HO2 := hid ((ownsRow_set (ownsRow_set HOW.out (p := ⟨bs, 0, none⟩) (by simp) (iv (scF ks f t k))) (p := ⟨bs, 1, none⟩) (by simp) (iv (scT ks f t k))).alloc (.cells #[iv (fld ks k 0), iv (fld ks k 1)] 47))
              have HW2 := hid (((HBL.out.setCell (p := ⟨bs, 0, none⟩) (by simp) (iv (scF ks f t k))).setCell (p := ⟨bs, 1, none⟩) (by simp) (iv (scT ks f t k))).alloc (by simp; omega) (.cells #[iv (fld ks k 0), iv (fld ks k 1)] 47))
              clear HBX HOW HBL
              go_wp2
              go_roundw
              case rel => exact ⟨k + 1, by omega, by go_num, by rw [HT.out.1]; exact HO2.out, by rw [HT.out.2.1, HT.out.2.2, E0.out, E1.out]; exact HB3.out, HW2.out⟩
              case measure => simp [intOf]; omega
      · obtain rfl : k = ks.length := by omega
        have HFJ : Hid (putR ks f t = insR (scR ks f t ks.length) (scF ks f t ks.length) (scT ks f t ks.length)) := hid rfl
        have hle := scR_len ks f t ks.length
        have HTWO := hid (scR_two ks f t ks.length)
        clear HG HC6 hb HBX0 HSO HF
        obtain ⟨ns, hns⟩ : ∃ ns, ns = scR ks f t ks.length := ⟨_, rfl⟩
        obtain ⟨F, hF⟩ : ∃ F, F = scF ks f t ks.length := ⟨_, rfl⟩
        obtain ⟨T, hT⟩ : ∃ T, T = scT ks f t ks.length := ⟨_, rfl⟩
        rw [← hns, ← hF, ← hT] at HFJ
        rw [← hns] at HOW HTWO hle
        rw [← hF, ← hT] at HBX
        clear hns hF hT
        have HSl0 := hid ((Own.of HOW.out).sl HTWO.out)
        have HZB := hid (Nat.le_of_lt HBX.out.1)
        go_wp2
        go_loopw [9] (fun t wx => ∃ j : Nat, j ≤ ns.length ∧ t = .int .i64 j ∧ HD ns F j ∧ Below wr.heap.size wr wx) (fun t _ => ns.length - (intOf t).toNat)
        case atStart => exact ⟨0, Nat.zero_le _, rfl, HD_zero _ _, Below.refl _ _⟩
        case round =>
          obtain ⟨k, hkn, rfl, hhd, hbw⟩ := hrel
          have HH := hid hhd
          have HBW := hid hbw
          have HBY := hid (HBX.out.below hbw)
          have HSl := hid ((HSl0.out.below hbw (Nat.le_refl _)).mono hbw.size)
          clear hhd hbw
          obtain ⟨A5, c5, rfl, hd1, hd2, -, hcell5⟩ := id HSl.out
          obtain ⟨hz, s0, s1, z0, z1⟩ := HBY.out
          have hk0 : (0 : Int) ≤ (k : Int) := Int.natCast_nonneg _
          by_cases hlt : k < ns.length
          · obtain ⟨b, off, rfl, hbB, hcc⟩ := hcell5 (by omega)
            have c0 := hcc k 0 hlt (by omega)
            rw [Nat.add_zero] at c0
            have hk1 : (k : Int) < (ns.length : Int) := by omega
            by_cases hf : fld ns k 0 < F
            · have HT := hid (HD_succ HH.out hf)
              clear hcc hcell5 HSl
              go_wp2_with fail
              go_quiet (fail)
              go_wp2
              go_roundw
              case rel => exact ⟨k + 1, by omega, by go_num, HT.out, below_drewN HBW.out _⟩
              case measure => simp [intOf]; omega
            · have HK := hid (headK_at hkn HH.out (fun hh => hf hh.2))
              clear hcc hcell5
              have hfd : decide (fld ns k 0 < F) = false := by simpa using hf
              clear hf
              go_wp2_with fail
              go_quiet (fail)
              rename_i nq
              have hbq := below_drewN (Below.refl wr.heap.size wr) nq
              generalize wr.drewN nq = wy at hbq ⊢
              replace HBX := hid (HBY.out.below hbq)
              replace HSl := hid ((HSl.out.below hbq (Nat.le_refl _)).mono hbq.size)
              replace HBW := hid (below_step HBW.out hbq)
              have hzy : bs < wy.heap.size := HBX.out.1
              clear s0 s1 z0 z1 hbq hz
              obtain ⟨X1, hr1, hs1⟩ := slice_head (P := Try.prog) (t := 43) elemSpan sizeSpan HSl.out (show k ≤ ns.length from hkn)
              obtain ⟨X2, hr2, hs2⟩ := slice_tail (P := Try.prog) (t := 43) elemSpan sizeSpan HSl.out (show k ≤ ns.length from hkn)
              have HX1 : Hid (∀ W : World, Below wy.heap.size wy W → Src W X1 k 2 (flat (ns.take k))) := hid fun W hx => by have h := (hs1.below hx (Nat.le_refl _)).src (fun r hr => HTWO.out r (List.mem_of_mem_take hr)) (by decide); rwa [List.length_take, Nat.min_eq_left hkn] at h
              have HX2 : Hid (∀ W : World, Below wy.heap.size wy W → Src W X2 (ns.length - k) 2 (flat (ns.drop k))) := hid fun W hx => by have h := (hs2.below hx (Nat.le_refl _)).src (fun r hr => HTWO.out r (List.mem_of_mem_drop hr)) (by decide); rwa [List.length_drop] at h
              clear hs1 hs2
              have HKN := hid hkn
              clear hkn hd1
              go_wp2_with fail
              clear hlt hk1 hfd c0 hbB
              have hrf := Below.refl wy.heap.size wy
              have HA1 := hid ((hrf.alloc (Nat.le_refl _) (.cells #[] 47)).drew)
              have HA2 := hid (((hrf.alloc (Nat.le_refl _) (.cells #[] 47)).alloc (by simp) (.cells #[iv F, iv T] 47)).drew)
              have HA3 := hid (((hrf.alloc (Nat.le_refl _) (.cells #[iv F, iv T] 47)).alloc (by simp) (.cells #[] 47)).drew)
              have HA0 := hid ((hrf.alloc (Nat.le_refl _) (.cells #[iv F, iv T] 47)).drew)
              have HO1 : Hid ((wy.alloc (.cells #[] 47)).drew.ownsRow wy.heap.size 47 2 (.slice (some ⟨wy.heap.size, 0, none⟩) 0 0) 0 []) := hid (World.ownsRow_lit (base := wy.heap.size) (e := 47) (size := 2) wy #[] 0 (Nat.le_refl _) (by decide) rfl).drew
              have HO2 : Hid (((wy.alloc (.cells #[] 47)).alloc (.cells #[iv F, iv T] 47)).drew.ownsRow wy.heap.size 47 2 (.slice (some ⟨wy.heap.size, 0, none⟩) 0 0) 0 []) := hid ((World.ownsRow_lit (base := wy.heap.size) (e := 47) (size := 2) wy #[] 0 (Nat.le_refl _) (by decide) rfl).alloc _).drew
              have HO3 : Hid (((wy.alloc (.cells #[iv F, iv T] 47)).alloc (.cells #[] 47)).drew.ownsRow wy.heap.size 47 2 (.slice (some ⟨wy.heap.size + 1, 0, none⟩) 0 0) 0 []) := hid (by have h := World.ownsRow_lit (base := wy.heap.size) (e := 47) (size := 2) (wy.alloc (.cells #[iv F, iv T] 47)) #[] 0 (by simp) (by decide) rfl; simpa using h.drew)
              have HL2 : Hid (((wy.alloc (.cells #[] 47)).alloc (.cells #[iv F, iv T] 47)).drew.heap[wy.heap.size + 1]? = some (.cells #[iv F, iv T] 47)) := hid (by have h := heap_new (wy.alloc (.cells #[] 47)) (.cells #[iv F, iv T] 47); rw [show (wy.alloc (.cells #[] 47)).heap.size = wy.heap.size + 1 by simp] at h; exact h)
              have HL3 : Hid (((wy.alloc (.cells #[iv F, iv T] 47)).alloc (.cells #[] 47)).drew.heap[wy.heap.size]? = some (.cells #[iv F, iv T] 47)) := hid (by have h := (below_alloc (wy.alloc (.cells #[iv F, iv T] 47)) (.cells #[] 47)).block wy.heap.size (by simp); exact h.trans (heap_new wy (.cells #[iv F, iv T] 47)))
              have HSS : Hid (∀ w' : World, Below wy.heap.size wy w' → (w'.cell? ⟨bs, 0, none⟩ = some (iv F) ∧ w'.cell? ⟨bs, 1, none⟩ = some (iv T))) := hid fun w' hx => ⟨(HBX.out.below hx).2.1, (HBX.out.below hx).2.2.1⟩
              go_region_held3 (fun w' => w'.cell? ⟨bs, 0, none⟩ = some (iv F) ∧ w'.cell? ⟨bs, 1, none⟩ = some (iv T)) (first | with_reducible exact HSS.out _ hrf.drew | with_reducible exact HSS.out _ HA0.out | with_reducible exact HSS.out _ HA1.out | with_reducible exact HSS.out _ HA2.out | with_reducible exact HSS.out _ HA3.out | with_reducible exact HSS.out _ HZ1.out | with_reducible exact HSS.out _ (HZ1.out.alloc HZ1.out.size _) | with_reducible exact HSS.out _ HZ2.out | with_reducible exact HSS.out _ HZ3.out | go_keep)
                (first
                  | (refine step_append_src _ (by rfl) _ _ 43 (by rfl) wy.heap.size 47 Try.underlying43 Try.infoSpan rfl (by decide) (.slice (some ⟨wy.heap.size, 0, none⟩) 0 0) X1 0 k [] (flat (ns.take k)) (by rfl) (by rfl) HO1.out (HX1.out _ HA1.out) (by have := HKN.out; unfold maxLen; omega) (by have := HKN.out; omega) HA1.out.size ?_; intro v1 w1 hown1 hg1; have HP1 := hid hown1; have HZ1 := hid (below_grown HA1.out HO1.out hg1 (Nat.le_refl _) HA1.out.size); clear hown1 hg1)
                  | (refine step_append_src _ (by rfl) _ _ 43 (by rfl) wy.heap.size 47 Try.underlying43 Try.infoSpan rfl (by decide) (.slice (some ⟨wy.heap.size, 0, none⟩) 0 0) X1 0 k [] (flat (ns.take k)) (by rfl) (by rfl) HO2.out (HX1.out _ HA2.out) (by have := HKN.out; unfold maxLen; omega) (by have := HKN.out; omega) HA2.out.size ?_; intro v1 w1 hown1 hg1; have HP1 := hid hown1; have HZ1 := hid (below_grown HA2.out HO2.out hg1 (Nat.le_refl _) HA2.out.size); have HQ1 := hid (grown_block hg1 HL2.out (by simp [Value.ownBlock])); clear hown1 hg1)
                  | (refine step_append_src _ (by rfl) _ _ 43 (by rfl) wy.heap.size 47 Try.underlying43 Try.infoSpan rfl (by decide) (.slice (some ⟨wy.heap.size + 1, 0, none⟩) 0 0) X1 0 k [] (flat (ns.take k)) (by rfl) (by rfl) HO3.out (HX1.out _ HA3.out) (by have := HKN.out; unfold maxLen; omega) (by have := HKN.out; omega) HA3.out.size ?_; intro v1 w1 hown1 hg1; have HP1 := hid hown1; have HZ1 := hid (below_grown HA3.out HO3.out hg1 (Nat.le_refl _) HA3.out.size); have HQ1 := hid (grown_block hg1 HL3.out (by simp [Value.ownBlock])); clear hown1 hg1)
                  | (refine step_append_src _ (by rfl) _ _ 43 (by rfl) wy.heap.size 47 Try.underlying43 Try.infoSpan rfl (by decide) v1 (.slice (some ⟨w1.heap.size, 0, none⟩) 1 1) (0 + k) 1 _ [iv F, iv T] (by rfl) (by rfl) (HP1.out.alloc _) (Src.lit (cs := #[iv F, iv T]) (m := 1) (size := 2) (heap_new w1 _) rfl (by simp [Value.oneCell']) 1) (by have := HKN.out; unfold maxLen; omega) (by have := HKN.out; omega) (HZ1.out.alloc HZ1.out.size _).size ?_; intro v2 w2 hown2 hg2; have HP2 := hid hown2; have HZ2 := hid (below_grown (HZ1.out.alloc HZ1.out.size _) (HP1.out.alloc _) hg2 (Nat.le_refl _) (HZ1.out.alloc HZ1.out.size _).size); clear hown2 hg2)
                  | (refine step_append_src _ (by rfl) _ _ 43 (by rfl) wy.heap.size 47 Try.underlying43 Try.infoSpan rfl (by decide) v1 (.slice (some ⟨wy.heap.size + 1, 0, none⟩) 1 1) (0 + k) 1 _ [iv F, iv T] (by rfl) (by rfl) HP1.out (Src.lit (cs := #[iv F, iv T]) (m := 1) (size := 2) HQ1.out rfl (by simp [Value.oneCell']) 1) (by have := HKN.out; unfold maxLen; omega) (by have := HKN.out; omega) HZ1.out.size ?_; intro v2 w2 hown2 hg2; have HP2 := hid hown2; have HZ2 := hid (below_grown HZ1.out HP1.out hg2 (Nat.le_refl _) HZ1.out.size); clear hown2 hg2)
                  | (refine step_append_src _ (by rfl) _ _ 43 (by rfl) wy.heap.size 47 Try.underlying43 Try.infoSpan rfl (by decide) v1 (.slice (some ⟨wy.heap.size, 0, none⟩) 1 1) (0 + k) 1 _ [iv F, iv T] (by rfl) (by rfl) HP1.out (Src.lit (cs := #[iv F, iv T]) (m := 1) (size := 2) HQ1.out rfl (by simp [Value.oneCell']) 1) (by have := HKN.out; unfold maxLen; omega) (by have := HKN.out; omega) HZ1.out.size ?_; intro v2 w2 hown2 hg2; have HP2 := hid hown2; have HZ2 := hid (below_grown HZ1.out HP1.out hg2 (Nat.le_refl _) HZ1.out.size); clear hown2 hg2)
                  | (refine step_append_src _ (by rfl) _ _ 43 (by rfl) wy.heap.size 47 Try.underlying43 Try.infoSpan rfl (by decide) v2 X2 (0 + k + 1) (ns.length - k) _ (flat (ns.drop k)) (by rfl) (by rfl) HP2.out (HX2.out _ HZ2.out) (by have := HKN.out; unfold maxLen; omega) (by have := HKN.out; omega) HZ2.out.size ?_; intro v3 w3 hown3 hg3; have HP3 := hid hown3; have HZ3 := hid (below_grown HZ2.out HP2.out hg3 (Nat.le_refl _) HZ2.out.size); clear hown3 hg3))
              all_goals
                have HBE := hid (HB1.out.trans (((HBL.out.trans (HBW.out.mono HZB.out)).trans (HZ3.out.mono (Nat.le_of_lt HBX.out.1))).mono hwb))
                have h9 := (Own.of (join_ret HK.out HKN.out HP3.out)).mono (lo' := w.heap.size) (hi' := w3.heap.size) (by omega) (Nat.le_refl _)
                rw [← HFJ.out, ← HJT.out] at h9
                have HO9 := hid h9.1
                clear h9
                go_wp2
                go_roundw
                case rel => exact ⟨k0 + 1, by omega, by go_num, HO9.out, HBE.out⟩
                case measure => simp [intOf]; omega
          · have HK := hid (headK_at hkn HH.out (fun hh => hlt hh.1))
            have hkd : decide (k < ns.length) = false := by simpa using hlt
            have hkd2 : decide ((k : Int) < (ns.length : Int)) = false := by simpa using hlt
            clear hcell5
            go_wp2_with fail
            go_quiet (fail)
            rename_i nq
            have hbq := below_drewN (Below.refl wr.heap.size wr) nq
            generalize wr.drewN nq = wy at hbq ⊢
            replace HBX := hid (HBY.out.below hbq)
            replace HSl := hid ((HSl.out.below hbq (Nat.le_refl _)).mono hbq.size)
            replace HBW := hid (below_step HBW.out hbq)
            have hzy : bs < wy.heap.size := HBX.out.1
            clear s0 s1 z0 z1 hbq hz
            obtain ⟨X1, hr1, hs1⟩ := slice_head (P := Try.prog) (t := 43) elemSpan sizeSpan HSl.out (show k ≤ ns.length from hkn)
            obtain ⟨X2, hr2, hs2⟩ := slice_tail (P := Try.prog) (t := 43) elemSpan sizeSpan HSl.out (show k ≤ ns.length from hkn)
            have HX1 : Hid (∀ W : World, Below wy.heap.size wy W → Src W X1 k 2 (flat (ns.take k))) := hid fun W hx => by have h := (hs1.below hx (Nat.le_refl _)).src (fun r hr => HTWO.out r (List.mem_of_mem_take hr)) (by decide); rwa [List.length_take, Nat.min_eq_left hkn] at h
            have HX2 : Hid (∀ W : World, Below wy.heap.size wy W → Src W X2 (ns.length - k) 2 (flat (ns.drop k))) := hid fun W hx => by have h := (hs2.below hx (Nat.le_refl _)).src (fun r hr => HTWO.out r (List.mem_of_mem_drop hr)) (by decide); rwa [List.length_drop] at h
            clear hs1 hs2
            have HKN := hid hkn
            clear hkn hd1
            go_wp2_with fail
            clear hlt hkd hkd2
            have hrf := Below.refl wy.heap.size wy
            have HA1 := hid ((hrf.alloc (Nat.le_refl _) (.cells #[] 47)).drew)
            have HA2 := hid (((hrf.alloc (Nat.le_refl _) (.cells #[] 47)).alloc (by simp) (.cells #[iv F, iv T] 47)).drew)
            have HA3 := hid (((hrf.alloc (Nat.le_refl _) (.cells #[iv F, iv T] 47)).alloc (by simp) (.cells #[] 47)).drew)
            have HA0 := hid ((hrf.alloc (Nat.le_refl _) (.cells #[iv F, iv T] 47)).drew)
            have HO1 : Hid ((wy.alloc (.cells #[] 47)).drew.ownsRow wy.heap.size 47 2 (.slice (some ⟨wy.heap.size, 0, none⟩) 0 0) 0 []) := hid (World.ownsRow_lit (base := wy.heap.size) (e := 47) (size := 2) wy #[] 0 (Nat.le_refl _) (by decide) rfl).drew
            have HO2 : Hid (((wy.alloc (.cells #[] 47)).alloc (.cells #[iv F, iv T] 47)).drew.ownsRow wy.heap.size 47 2 (.slice (some ⟨wy.heap.size, 0, none⟩) 0 0) 0 []) := hid ((World.ownsRow_lit (base := wy.heap.size) (e := 47) (size := 2) wy #[] 0 (Nat.le_refl _) (by decide) rfl).alloc _).drew
            have HO3 : Hid (((wy.alloc (.cells #[iv F, iv T] 47)).alloc (.cells #[] 47)).drew.ownsRow wy.heap.size 47 2 (.slice (some ⟨wy.heap.size + 1, 0, none⟩) 0 0) 0 []) := hid (by have h := World.ownsRow_lit (base := wy.heap.size) (e := 47) (size := 2) (wy.alloc (.cells #[iv F, iv T] 47)) #[] 0 (by simp) (by decide) rfl; simpa using h.drew)
            have HL2 : Hid (((wy.alloc (.cells #[] 47)).alloc (.cells #[iv F, iv T] 47)).drew.heap[wy.heap.size + 1]? = some (.cells #[iv F, iv T] 47)) := hid (by have h := heap_new (wy.alloc (.cells #[] 47)) (.cells #[iv F, iv T] 47); rw [show (wy.alloc (.cells #[] 47)).heap.size = wy.heap.size + 1 by simp] at h; exact h)
            have HL3 : Hid (((wy.alloc (.cells #[iv F, iv T] 47)).alloc (.cells #[] 47)).drew.heap[wy.heap.size]? = some (.cells #[iv F, iv T] 47)) := hid (by have h := (below_alloc (wy.alloc (.cells #[iv F, iv T] 47)) (.cells #[] 47)).block wy.heap.size (by simp); exact h.trans (heap_new wy (.cells #[iv F, iv T] 47)))
            have HSS : Hid (∀ w' : World, Below wy.heap.size wy w' → (w'.cell? ⟨bs, 0, none⟩ = some (iv F) ∧ w'.cell? ⟨bs, 1, none⟩ = some (iv T))) := hid fun w' hx => ⟨(HBX.out.below hx).2.1, (HBX.out.below hx).2.2.1⟩
            go_region_held3 (fun w' => w'.cell? ⟨bs, 0, none⟩ = some (iv F) ∧ w'.cell? ⟨bs, 1, none⟩ = some (iv T)) (first | with_reducible exact HSS.out _ hrf.drew | with_reducible exact HSS.out _ HA0.out | with_reducible exact HSS.out _ HA1.out | with_reducible exact HSS.out _ HA2.out | with_reducible exact HSS.out _ HA3.out | with_reducible exact HSS.out _ HZ1.out | with_reducible exact HSS.out _ (HZ1.out.alloc HZ1.out.size _) | with_reducible exact HSS.out _ HZ2.out | with_reducible exact HSS.out _ HZ3.out | go_keep)
              (first
                | (refine step_append_src _ (by rfl) _ _ 43 (by rfl) wy.heap.size 47 Try.underlying43 Try.infoSpan rfl (by decide) (.slice (some ⟨wy.heap.size, 0, none⟩) 0 0) X1 0 k [] (flat (ns.take k)) (by rfl) (by rfl) HO1.out (HX1.out _ HA1.out) (by have := HKN.out; unfold maxLen; omega) (by have := HKN.out; omega) HA1.out.size ?_; intro v1 w1 hown1 hg1; have HP1 := hid hown1; have HZ1 := hid (below_grown HA1.out HO1.out hg1 (Nat.le_refl _) HA1.out.size); clear hown1 hg1)
                | (refine step_append_src _ (by rfl) _ _ 43 (by rfl) wy.heap.size 47 Try.underlying43 Try.infoSpan rfl (by decide) (.slice (some ⟨wy.heap.size, 0, none⟩) 0 0) X1 0 k [] (flat (ns.take k)) (by rfl) (by rfl) HO2.out (HX1.out _ HA2.out) (by have := HKN.out; unfold maxLen; omega) (by have := HKN.out; omega) HA2.out.size ?_; intro v1 w1 hown1 hg1; have HP1 := hid hown1; have HZ1 := hid (below_grown HA2.out HO2.out hg1 (Nat.le_refl _) HA2.out.size); have HQ1 := hid (grown_block hg1 HL2.out (by simp [Value.ownBlock])); clear hown1 hg1)
                | (refine step_append_src _ (by rfl) _ _ 43 (by rfl) wy.heap.size 47 Try.underlying43 Try.infoSpan rfl (by decide) (.slice (some ⟨wy.heap.size + 1, 0, none⟩) 0 0) X1 0 k [] (flat (ns.take k)) (by rfl) (by rfl) HO3.out (HX1.out _ HA3.out) (by have := HKN.out; unfold maxLen; omega) (by have := HKN.out; omega) HA3.out.size ?_; intro v1 w1 hown1 hg1; have HP1 := hid hown1; have HZ1 := hid (below_grown HA3.out HO3.out hg1 (Nat.le_refl _) HA3.out.size); have HQ1 := hid (grown_block hg1 HL3.out (by simp [Value.ownBlock])); clear hown1 hg1)
                | (refine step_append_src _ (by rfl) _ _ 43 (by rfl) wy.heap.size 47 Try.underlying43 Try.infoSpan rfl (by decide) v1 (.slice (some ⟨w1.heap.size, 0, none⟩) 1 1) (0 + k) 1 _ [iv F, iv T] (by rfl) (by rfl) (HP1.out.alloc _) (Src.lit (cs := #[iv F, iv T]) (m := 1) (size := 2) (heap_new w1 _) rfl (by simp [Value.oneCell']) 1) (by have := HKN.out; unfold maxLen; omega) (by have := HKN.out; omega) (HZ1.out.alloc HZ1.out.size _).size ?_; intro v2 w2 hown2 hg2; have HP2 := hid hown2; have HZ2 := hid (below_grown (HZ1.out.alloc HZ1.out.size _) (HP1.out.alloc _) hg2 (Nat.le_refl _) (HZ1.out.alloc HZ1.out.size _).size); clear hown2 hg2)
                | (refine step_append_src _ (by rfl) _ _ 43 (by rfl) wy.heap.size 47 Try.underlying43 Try.infoSpan rfl (by decide) v1 (.slice (some ⟨wy.heap.size + 1, 0, none⟩) 1 1) (0 + k) 1 _ [iv F, iv T] (by rfl) (by rfl) HP1.out (Src.lit (cs := #[iv F, iv T]) (m := 1) (size := 2) HQ1.out rfl (by simp [Value.oneCell']) 1) (by have := HKN.out; unfold maxLen; omega) (by have := HKN.out; omega) HZ1.out.size ?_; intro v2 w2 hown2 hg2; have HP2 := hid hown2; have HZ2 := hid (below_grown HZ1.out HP1.out hg2 (Nat.le_refl _) HZ1.out.size); clear hown2 hg2)
                | (refine step_append_src _ (by rfl) _ _ 43 (by rfl) wy.heap.size 47 Try.underlying43 Try.infoSpan rfl (by decide) v1 (.slice (some ⟨wy.heap.size, 0, none⟩) 1 1) (0 + k) 1 _ [iv F, iv T] (by rfl) (by rfl) HP1.out (Src.lit (cs := #[iv F, iv T]) (m := 1) (size := 2) HQ1.out rfl (by simp [Value.oneCell']) 1) (by have := HKN.out; unfold maxLen; omega) (by have := HKN.out; omega) HZ1.out.size ?_; intro v2 w2 hown2 hg2; have HP2 := hid hown2; have HZ2 := hid (below_grown HZ1.out HP1.out hg2 (Nat.le_refl _) HZ1.out.size); clear hown2 hg2)
                | (refine step_append_src _ (by rfl) _ _ 43 (by rfl) wy.heap.size 47 Try.underlying43 Try.infoSpan rfl (by decide) v2 X2 (0 + k + 1) (ns.length - k) _ (flat (ns.drop k)) (by rfl) (by rfl) HP2.out (HX2.out _ HZ2.out) (by have := HKN.out; unfold maxLen; omega) (by have := HKN.out; omega) HZ2.out.size ?_; intro v3 w3 hown3 hg3; have HP3 := hid hown3; have HZ3 := hid (below_grown HZ2.out HP2.out hg3 (Nat.le_refl _) HZ2.out.size); clear hown3 hg3))
            all_goals
              have HBE := hid (HB1.out.trans (((HBL.out.trans (HBW.out.mono HZB.out)).trans (HZ3.out.mono (Nat.le_of_lt HBX.out.1))).mono hwb))
              have h9 := (Own.of (join_ret HK.out HKN.out HP3.out)).mono (lo' := w.heap.size) (hi' := w3.heap.size) (by omega) (Nat.le_refl _)
              rw [← HFJ.out, ← HJT.out] at h9
              have HO9 := hid h9.1
              clear h9
              go_wp2
              go_roundw
              case rel => exact ⟨k0 + 1, by omega, by go_num, HO9.out, HBE.out⟩
              case measure => simp [intOf]; omega

end Go.Proofs.Ytkdpfbodmfjkkaa
