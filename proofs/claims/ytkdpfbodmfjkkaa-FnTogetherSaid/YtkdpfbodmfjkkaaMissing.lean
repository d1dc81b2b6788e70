/- MissingOwners and NextOwner of the program and of the reference: the owners of whom no signature is there, in an array of its own, and the first of them. Condition: no more than 2^40 owners. -/
import Derived.Test.YtkdpfbodmfjkkaaRows
import Derived.Test.YtkdpfbodmfjkkaaPlain
import Derived.Test.YtkdpfbodmfjkkaaAppend
import Derived.Test.YtkdpfbodmfjkkaaCrypto
import Derived.Test.YtkdpfbodmfjkkaaCol
import Derived.Test.YtkdpfbodmfjkkaaSignatureOf
namespace Go.Proofs.Ytkdpfbodmfjkkaa
open Go.RowKit

def missI (ks ls : List (List Int)) (os : List Int) (d : Int) (k : Nat) : List Int := ((List.range k).filter fun i => decide (sigOf ks ls (nth os i) d < 0)).map fun i => nth os i
theorem missI_yes {ks ls : List (List Int)} {os : List Int} {d : Int} {k : Nat} (h : sigOf ks ls (nth os k) d < 0) : missI ks ls os d (k + 1) = missI ks ls os d k ++ [nth os k] := by
  simp [missI, List.range_succ, List.filter_append, h]
theorem missI_no {ks ls : List (List Int)} {os : List Int} {d : Int} {k : Nat} (h : ¬ sigOf ks ls (nth os k) d < 0) : missI ks ls os d (k + 1) = missI ks ls os d k := by
  simp [missI, List.range_succ, List.filter_append, h]
theorem missI_le (ks ls : List (List Int)) (os : List Int) (d : Int) (k : Nat) : (missI ks ls os d k).length ≤ k := by
  have := List.length_filter_le (fun i => decide (sigOf ks ls (nth os i) d < 0)) (List.range k)
  simpa [missI] using this
def nextOw (ks ls : List (List Int)) (os : List Int) (d : Int) : Int := if (missI ks ls os d os.length).length = 0 then -1 else nth (missI ks ls os d os.length) 0
theorem nextOw_none {ks ls : List (List Int)} {os : List Int} {d : Int} (h : (missI ks ls os d os.length).length = 0) : -1 = nextOw ks ls os d := by unfold nextOw; rw [if_pos h]
theorem nextOw_some {ks ls : List (List Int)} {os : List Int} {d : Int} (h : 0 < (missI ks ls os d os.length).length) : nth (missI ks ls os d os.length) 0 = nextOw ks ls os d := by unfold nextOw; rw [if_neg (by omega)]

set_option maxHeartbeats 4000000 in
theorem implMissingOwners_any {B : Nat} {ks ls : List (List Int)} {os : List Int} {v x u : Value} (q : Bool) (d : Int) (w : World) (h : Sl B w 5 v ks) (g : Si B w x os) (g2 : Sl B w 9 u ls) (hB : B ≤ w.heap.size) (hn : os.length ≤ 1099511627776) :
    Calls Try.prog 91 #[v, .agg #[x, .bool q], u, iv d] w (RetOwn 3 1 (missI ks ls os d os.length).length ((missI ks ls os d os.length).map (Value.int .i64)) w) := by
  obtain ⟨A, c, rfl, hc1, hc2, -, hcell⟩ := g
  have HC := hid hcell
  have HV := hid (And.intro h g2)
  clear hcell h g2
  have HQ : Hid (∀ wr : World, Below (w.alloc (.cells #[.slice A os.length c, .bool q] 33)).heap.size (w.alloc (.cells #[.slice A os.length c, .bool q] 33)) wr → wr.cell? ⟨w.heap.size, 0, none⟩ = some (.slice A os.length c)) := hid fun wr hx => (hx.cell (p := ⟨w.heap.size, 0, none⟩) (by simp)).trans (by simp [go_sem])
  go_enter Try.func91, Try.ntmps91
  go_wp2
  go_loopw [9, 15] (fun l i wr => ∃ k : Nat, k ≤ os.length ∧ i = .int .i64 k ∧ wr.ownsRow (w.heap.size + 1) 3 1 l (missI ks ls os d k).length ((missI ks ls os d k).map (Value.int .i64)) ∧ Below (w.alloc (.cells #[.slice A os.length c, .bool q] 33)).heap.size (w.alloc (.cells #[.slice A os.length c, .bool q] 33)) wr) (fun _ i _ => os.length - (intOf i).toNat)
  case atStart => exact ⟨0, Nat.zero_le _, rfl, World.ownsRow_nil _ _ _ _, Below.refl _ _⟩
  case round =>
    obtain ⟨k, hk, rfl, how, hb⟩ := hrel
    have q0 := HQ.out _ hb
    by_cases hlt : k < os.length
    · obtain ⟨b, off, rfl, hbB, hcc⟩ := HC.out (by omega)
      have hbl := below_step (below_alloc w _) hb
      have c0 := cell_at hbl hbB hB (hcc k hlt)
      have hzw : w.heap.size + 1 ≤ wr.heap.size := by have := hb.size; simp at this; omega
      have hle := missI_le ks ls os d k
      have hi0 : (0 : Int) ≤ (k : Int) := Int.natCast_nonneg _
      have hi1 : (k : Int) < (os.length : Int) := by omega
      have HCC := hid (hcc k hlt)
      have HOW := hid how
      have HBL := hid hb
      have HBW := hid hbl
      clear HC hcc hb how hbl
      go_wp2_with fail
      refine (implSignatureOf_any _ _ _ (HV.out.1.below HBW.out hB) (HV.out.2.below HBW.out hB) (Nat.le_trans hB HBW.out.size)).mono ?_
      rintro e w1 ⟨rfl, hb1⟩
      have hz1 := hb1.size
      have HO := hid (ownsRow_below HOW.out hb1 (fun g hg => (HOW.out.lt g hg).2))
      have HB := hid (below_step HBL.out hb1)
      have hzw1 : w.heap.size + 1 ≤ w1.heap.size := by omega
      have q1 := HQ.out _ HB.out
      have c1 := cell_at (below_step HBW.out hb1) hbB hB HCC.out
      clear hb1 HOW HBL HBW c0 q0 HCC
      by_cases h0 : sigOf ks ls (nth os k) d < 0
      · have HT := hid (missI_yes h0)
        go_wp2_with (first | (at_builtin; refine wpList_append_src _ rfl _ _ 23 rfl (w.heap.size + 1) 3 Try.underlying23 Try.infoI rfl (by decide) _ _ (missI ks ls os d k).length 1 _ [iv (nth os k)] rfl rfl (HO.out.alloc _) (Src.lit (cs := #[iv (nth os k)]) (m := 1) (size := 1) (heap_new_at w1 _ (by simp)) rfl (by simp [Value.oneCell']) 1) (by unfold maxLen; omega) (by omega) (by simp; omega) ?_; intro v1 w2 hown1 hg1; have HO1 := hid hown1; have HB1 := hid (below_grown (HB.out.alloc HB.out.size _) (HO.out.alloc _) hg1 (by simp) (Nat.le_trans HB.out.size (by simp; try omega))); clear hown1 hg1) | fail)
        go_roundw
        case rel => exact ⟨k + 1, by omega, by go_num, by rw [HT.out, List.map_append, List.length_append]; exact HO1.out, HB1.out⟩
        case measure => simp [intOf]; omega
      · have HT := hid (missI_no h0)
        go_wp2
        go_roundw
        case rel => exact ⟨k + 1, by omega, by go_num, by rw [HT.out]; exact HO.out, HB.out⟩
        case measure => simp [intOf]; omega
    · obtain rfl : k = os.length := by omega
      have HO := hid how
      have HBL := hid (below_step (below_alloc w _) hb)
      clear how hb HC
      go_wp2
      go_ret
      exact ⟨_, rfl, (Own.of HO.out).mono (by omega) (Nat.le_refl _), HBL.out⟩
set_option maxHeartbeats 4000000 in
theorem implNextOwner_any {B : Nat} {ks ls : List (List Int)} {os : List Int} {v x u : Value} (q : Bool) (d : Int) (w : World) (h : Sl B w 5 v ks) (g : Si B w x os) (g2 : Sl B w 9 u ls) (hB : B ≤ w.heap.size) (hn : os.length ≤ 1099511627776) :
    Calls Try.prog 79 #[v, .agg #[x, .bool q], u, iv d] w (Ret (iv (nextOw ks ls os d)) w) := by
  have HV := hid (And.intro h (And.intro g g2))
  clear h g g2
  have hle := missI_le ks ls os d os.length
  go_enter Try.func79, Try.ntmps79
  go_wp2_with fail
  refine (implMissingOwners_any _ _ _ (HV.out.1.below (below_alloc _ _) hB) (HV.out.2.1.below (below_alloc _ _) hB) (HV.out.2.2.below (below_alloc _ _) hB) (Nat.le_trans hB (below_alloc _ _).size) hn).mono ?_
  rintro e w1 ⟨r, rfl, ho1, hb1⟩
  have HB := hid (below_step (below_alloc _ _) hb1)
  obtain ⟨A, c, rfl, hc1, hc2, -, hcell⟩ := Own.si (zs := missI ks ls os d os.length) ho1
  clear ho1 hb1
  by_cases h0 : (missI ks ls os d os.length).length = 0
  · have HT := hid (nextOw_none h0)
    rw [h0]
    clear hcell
    go_wp2
    go_ret
    exact ⟨ret_int HT.out, HB.out⟩
  · have h1 : 0 < (missI ks ls os d os.length).length := by omega
    have HT := hid (nextOw_some h1)
    obtain ⟨b, off, rfl, hbB, hcc⟩ := hcell h1
    have c0 := hcc 0 h1
    rw [Nat.add_zero] at c0
    have hne : (((missI ks ls os d os.length).length : Int) == 0) = false := by rw [beq_eq_false_iff_ne]; omega
    have hlt : (0 : Int) < ((missI ks ls os d os.length).length : Int) := by omega
    clear hcell hcc h0
    go_wp2
    go_ret
    exact ⟨ret_int HT.out, HB.out⟩

set_option maxHeartbeats 4000000 in
theorem specMissingOwners_any {B : Nat} {ks ls : List (List Int)} {os : List Int} {v x u : Value} (q : Bool) (d : Int) (w : World) (h : Sl B w 5 v ks) (g : Si B w x os) (g2 : Sl B w 9 u ls) (hB : B ≤ w.heap.size) (hn : os.length ≤ 1099511627776) :
    Calls Try.prog 144 #[v, .agg #[x, .bool q], u, iv d] w (RetOwn 3 1 (missI ks ls os d os.length).length ((missI ks ls os d os.length).map (Value.int .i64)) w) := by
  obtain ⟨A, c, rfl, hc1, hc2, -, hcell⟩ := g
  have HC := hid hcell
  have HV := hid (And.intro h g2)
  clear hcell h g2
  have HQ : Hid (∀ wr : World, Below (w.alloc (.cells #[.slice A os.length c, .bool q] 33)).heap.size (w.alloc (.cells #[.slice A os.length c, .bool q] 33)) wr → wr.cell? ⟨w.heap.size, 0, none⟩ = some (.slice A os.length c)) := hid fun wr hx => (hx.cell (p := ⟨w.heap.size, 0, none⟩) (by simp)).trans (by simp [go_sem])
  go_enter Try.func144, Try.ntmps144
  go_wp2
  go_loopw [9, 10] (fun l i wr => ∃ k : Nat, k ≤ os.length ∧ i = .int .i64 k ∧ wr.ownsRow (w.heap.size + 1) 3 1 l (missI ks ls os d k).length ((missI ks ls os d k).map (Value.int .i64)) ∧ Below (w.alloc (.cells #[.slice A os.length c, .bool q] 33)).heap.size (w.alloc (.cells #[.slice A os.length c, .bool q] 33)) wr) (fun _ i _ => os.length - (intOf i).toNat)
  case atStart => exact ⟨0, Nat.zero_le _, rfl, by simpa [missI] using World.ownsRow_lit (base := w.heap.size + 1) (e := 3) (size := 1) (w.alloc (.cells #[.slice A os.length c, .bool q] 33)) #[] 0 (by simp) (by decide) rfl, below_alloc _ _⟩
  case round =>
    obtain ⟨k, hk, rfl, how, hb⟩ := hrel
    have q0 := HQ.out _ hb
    by_cases hlt : k < os.length
    · obtain ⟨b, off, rfl, hbB, hcc⟩ := HC.out (by omega)
      have hbl := below_step (below_alloc w _) hb
      have c0 := cell_at hbl hbB hB (hcc k hlt)
      have hzw : w.heap.size + 1 ≤ wr.heap.size := by have := hb.size; simp at this; omega
      have hle := missI_le ks ls os d k
      have hi0 : (0 : Int) ≤ (k : Int) := Int.natCast_nonneg _
      have hi1 : (k : Int) < (os.length : Int) := by omega
      have HCC := hid (hcc k hlt)
      have HOW := hid how
      have HBL := hid hb
      have HBW := hid hbl
      clear HC hcc hb how hbl
      go_wp2_with fail
      refine (specSignatureOf_any _ _ _ (HV.out.1.below HBW.out hB) (HV.out.2.below HBW.out hB) (Nat.le_trans hB HBW.out.size)).mono ?_
      rintro e w1 ⟨rfl, hb1⟩
      have hz1 := hb1.size
      have HO := hid (ownsRow_below HOW.out hb1 (fun g hg => (HOW.out.lt g hg).2))
      have HB := hid (below_step HBL.out hb1)
      have hzw1 : w.heap.size + 1 ≤ w1.heap.size := by omega
      have q1 := HQ.out _ HB.out
      have c1 := cell_at (below_step HBW.out hb1) hbB hB HCC.out
      clear hb1 HOW HBL HBW c0 q0 HCC
      by_cases h0 : sigOf ks ls (nth os k) d < 0
      · have HT := hid (missI_yes h0)
        go_wp2_with (first | (at_builtin; refine wpList_append_src _ rfl _ _ 23 rfl (w.heap.size + 1) 3 Try.underlying23 Try.infoI rfl (by decide) _ _ (missI ks ls os d k).length 1 _ [iv (nth os k)] rfl rfl (HO.out.alloc _) (Src.lit (cs := #[iv (nth os k)]) (m := 1) (size := 1) (heap_new_at w1 _ (by simp)) rfl (by simp [Value.oneCell']) 1) (by unfold maxLen; omega) (by omega) (by simp; omega) ?_; intro v1 w2 hown1 hg1; have HO1 := hid hown1; have HB1 := hid (below_grown (HB.out.alloc HB.out.size _) (HO.out.alloc _) hg1 (by simp) (Nat.le_trans HB.out.size (by simp; try omega))); clear hown1 hg1) | fail)
        go_roundw
        case rel => exact ⟨k + 1, by omega, by go_num, by rw [HT.out, List.map_append, List.length_append]; exact HO1.out, HB1.out⟩
        case measure => simp [intOf]; omega
      · have HT := hid (missI_no h0)
        go_wp2
        go_roundw
        case rel => exact ⟨k + 1, by omega, by go_num, by rw [HT.out]; exact HO.out, HB.out⟩
        case measure => simp [intOf]; omega
    · obtain rfl : k = os.length := by omega
      have HO := hid how
      have HBL := hid (below_step (below_alloc w _) hb)
      clear how hb HC
      go_wp2
      go_ret
      exact ⟨_, rfl, (Own.of HO.out).mono (by omega) (Nat.le_refl _), HBL.out⟩
set_option maxHeartbeats 4000000 in
theorem specNextOwner_any {B : Nat} {ks ls : List (List Int)} {os : List Int} {v x u : Value} (q : Bool) (d : Int) (w : World) (h : Sl B w 5 v ks) (g : Si B w x os) (g2 : Sl B w 9 u ls) (hB : B ≤ w.heap.size) (hn : os.length ≤ 1099511627776) :
    Calls Try.prog 78 #[v, .agg #[x, .bool q], u, iv d] w (Ret (iv (nextOw ks ls os d)) w) := by
  have HV := hid (And.intro h (And.intro g g2))
  clear h g g2
  have hle := missI_le ks ls os d os.length
  go_enter Try.func78, Try.ntmps78
  go_wp2_with fail
  refine (specMissingOwners_any _ _ _ (HV.out.1.below (below_alloc _ _) hB) (HV.out.2.1.below (below_alloc _ _) hB) (HV.out.2.2.below (below_alloc _ _) hB) (Nat.le_trans hB (below_alloc _ _).size) hn).mono ?_
  rintro e w1 ⟨r, rfl, ho1, hb1⟩
  have HB := hid (below_step (below_alloc _ _) hb1)
  obtain ⟨A, c, rfl, hc1, hc2, -, hcell⟩ := Own.si (zs := missI ks ls os d os.length) ho1
  clear ho1 hb1
  by_cases h0 : (missI ks ls os d os.length).length = 0
  · have HT := hid (nextOw_none h0)
    rw [h0]
    clear hcell
    go_wp2
    go_ret
    exact ⟨ret_int HT.out, HB.out⟩
  · have h1 : 0 < (missI ks ls os d os.length).length := by omega
    have HT := hid (nextOw_some h1)
    obtain ⟨b, off, rfl, hbB, hcc⟩ := hcell h1
    have c0 := hcc 0 h1
    rw [Nat.add_zero] at c0
    have hne : (((missI ks ls os d os.length).length : Int) == 0) = false := by rw [beq_eq_false_iff_ne]; omega
    have hlt : (0 : Int) < ((missI ks ls os d os.length).length : Int) := by omega
    clear hcell hcc h0
    go_wp2
    go_ret
    exact ⟨ret_int HT.out, HB.out⟩

end Go.Proofs.Ytkdpfbodmfjkkaa
