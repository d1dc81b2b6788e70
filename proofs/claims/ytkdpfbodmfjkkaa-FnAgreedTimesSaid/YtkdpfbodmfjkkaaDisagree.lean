/- DisagreeingWith of the program and of the reference: the places of the spans that do not meet a span, in an array of its own. Condition: no more than 2^40 spans. -/
import Derived.Test.YtkdpfbodmfjkkaaRows
import Derived.Test.YtkdpfbodmfjkkaaPlain
import Derived.Test.YtkdpfbodmfjkkaaAppend
import Derived.Test.YtkdpfbodmfjkkaaCrypto
import Derived.Test.YtkdpfbodmfjkkaaCol
import Derived.Test.YtkdpfbodmfjkkaaMeet
import Derived.Test.YtkdpfbodmfjkkaaBox
import Derived.Deep.DeepCutAuto
namespace Go.Proofs.Ytkdpfbodmfjkkaa
open Go.RowKit

def disI (ks : List (List Int)) (x y : Int) (k : Nat) : List Int := ((List.range k).filter fun i => !meetB (fld ks i 0) (fld ks i 1) x y).map fun i : Nat => (i : Int)
theorem disI_yes {ks : List (List Int)} {x y : Int} {k : Nat} (h : meetB (fld ks k 0) (fld ks k 1) x y = false) : disI ks x y (k + 1) = disI ks x y k ++ [(k : Int)] := by
  simp [disI, List.range_succ, List.filter_append, h]
theorem disI_no {ks : List (List Int)} {x y : Int} {k : Nat} (h : meetB (fld ks k 0) (fld ks k 1) x y = true) : disI ks x y (k + 1) = disI ks x y k := by
  simp [disI, List.range_succ, List.filter_append, h]
theorem disI_le (ks : List (List Int)) (x y : Int) (k : Nat) : (disI ks x y k).length ≤ k := by
  have := List.length_filter_le (fun i => !meetB (fld ks i 0) (fld ks i 1) x y) (List.range k)
  simpa [disI] using this

set_option maxHeartbeats 4000000 in
theorem implDisagreeingWith_any {B : Nat} {ks : List (List Int)} {v : Value} (a0 a1 : Int) (w : World) (h : Sl B w 2 v ks) (hB : B ≤ w.heap.size) (hn : ks.length ≤ 1099511627776) :
    Calls Try.prog 33 #[v, .agg #[iv a0, iv a1]] w (RetOwn 3 1 (disI ks a0 a1 ks.length).length ((disI ks a0 a1 ks.length).map (Value.int .i64)) w) := by
  obtain ⟨A, c, rfl, hc1, hc2, -, hcell⟩ := h
  have HC := hid hcell
  clear hcell
  have HQ : Hid (∀ wr : World, Below (w.alloc (.cells #[iv a0, iv a1] 47)).heap.size (w.alloc (.cells #[iv a0, iv a1] 47)) wr → (wr.cell? ⟨w.heap.size, 0, none⟩ = some (iv a0) ∧ wr.cell? ⟨w.heap.size, 1, none⟩ = some (iv a1))) := hid fun wr hx => ⟨(hx.cell (p := ⟨w.heap.size, 0, none⟩) (by simp)).trans (by simp [go_sem]), (hx.cell (p := ⟨w.heap.size, 1, none⟩) (by simp)).trans (by simp [go_sem])⟩
  go_enter Try.func33, Try.ntmps33
  go_wp2
  go_loopw [5, 12] (fun l i wr => ∃ k : Nat, k ≤ ks.length ∧ i = .int .i64 k ∧ wr.ownsRow (w.heap.size + 1) 3 1 l (disI ks a0 a1 k).length ((disI ks a0 a1 k).map (Value.int .i64)) ∧ Below (w.alloc (.cells #[iv a0, iv a1] 47)).heap.size (w.alloc (.cells #[iv a0, iv a1] 47)) wr) (fun _ i _ => ks.length - (intOf i).toNat)
  case atStart => exact ⟨0, Nat.zero_le _, rfl, World.ownsRow_nil _ _ _ _, Below.refl _ _⟩
  case round =>
    obtain ⟨k, hk, rfl, how, hb⟩ := hrel
    by_cases hlt : k < ks.length
    · obtain ⟨b, off, rfl, hbB, hcc⟩ := HC.out (by omega)
      have hbl := below_step (below_alloc w _) hb
      have c0 := cell_at hbl hbB hB (hcc k 0 hlt (by omega))
      have c1 := cell_at hbl hbB hB (hcc k 1 hlt (by omega))
      rw [Nat.add_zero] at c0
      obtain ⟨q0, q1⟩ := HQ.out _ hb
      have hzw : w.heap.size + 1 ≤ wr.heap.size := by have := hb.size; simp at this; omega
      have hqw : w.heap.size < wr.heap.size := by omega
      have hbw : b < wr.heap.size := by omega
      have hle := disI_le ks a0 a1 k
      have HOW := hid how
      have HBL := hid hb
      clear HC hcc hb how hbl

      go_wp2_with fail
      refine (implMeetSpans_any _ _ _ _ _).mono ?_
      rintro e w1 ⟨rfl, hb1⟩
      have hz1 : wr.heap.size < w1.heap.size := below_size hb1
      have HO := hid (ownsRow_below (HOW.out.alloc (.cells #[iv (fld ks k 0), iv (fld ks k 1)] 47)) hb1 (fun g hg => (((HOW.out.alloc (.cells #[iv (fld ks k 0), iv (fld ks k 1)] 47))).lt g hg).2))
      have HB := hid (below_step (HBL.out.alloc HBL.out.size (.cells #[iv (fld ks k 0), iv (fld ks k 1)] 47)) hb1)
      have hzw1 : w.heap.size + 1 ≤ w1.heap.size := by omega
      clear hb1 HOW HBL c0 c1 q0 q1

      cases h0 : meetB (fld ks k 0) (fld ks k 1) a0 a1
      · have HT := hid (disI_yes h0)
        clear h0
        go_wp2_with (first | (at_builtin; refine wpList_append_src _ rfl _ _ 23 rfl (w.heap.size + 1) 3 Try.underlying23 Try.infoI rfl (by decide) _ _ (disI ks a0 a1 k).length 1 _ [iv (k : Int)] rfl rfl ((HO.out.alloc _).alloc _) (Src.lit (cs := #[iv (k : Int)]) (m := 1) (size := 1) (heap_new_at (w1.alloc (.cells #[iv (meetL (fld ks k 0) (fld ks k 1) a0 a1), iv (meetR (fld ks k 0) (fld ks k 1) a0 a1)] 47)) _ (by simp)) rfl (by simp [Value.oneCell']) 1) (by unfold maxLen; omega) (by omega) (by simp; omega) ?_; intro v1 w2 hown1 hg1; have HO1 := hid hown1; have HB1 := hid (below_grown ((HB.out.alloc HB.out.size _).alloc (Nat.le_trans HB.out.size (by simp)) _) ((HO.out.alloc _).alloc _) hg1 (by simp) (Nat.le_trans HB.out.size (by simp; try omega))); clear hown1 hg1) | fail)
        go_roundw
        case rel => exact ⟨k + 1, by omega, by go_num, by rw [HT.out, List.map_append, List.length_append]; exact HO1.out, HB1.out⟩
        case measure => simp [intOf]; omega
      · have HT := hid (disI_no h0)
        clear h0
        have HO1 := hid (HO.out.alloc (.cells #[iv (meetL (fld ks k 0) (fld ks k 1) a0 a1), iv (meetR (fld ks k 0) (fld ks k 1) a0 a1)] 47))
        have HB1 := hid (HB.out.alloc HB.out.size (.cells #[iv (meetL (fld ks k 0) (fld ks k 1) a0 a1), iv (meetR (fld ks k 0) (fld ks k 1) a0 a1)] 47))
        go_wp2
        go_roundw
        case rel => exact ⟨k + 1, by omega, by go_num, by rw [HT.out]; exact HO1.out, HB1.out⟩
        case measure => simp [intOf]; omega

    · obtain rfl : k = ks.length := by omega
      have HO := hid how
      have HBL := hid (below_step (below_alloc w _) hb)
      clear how hb HC
      go_wp2
      go_ret
      exact ⟨_, rfl, (Own.of HO.out).mono (by omega) (Nat.le_refl _), HBL.out⟩
end Go.Proofs.Ytkdpfbodmfjkkaa
