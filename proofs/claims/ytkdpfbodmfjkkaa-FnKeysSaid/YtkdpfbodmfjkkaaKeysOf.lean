/- KeysOf of the program and of the reference: the numbers of the owner's keys, in order, in an array of its own. Condition: no more than 2^40 keys. -/
import Derived.Test.YtkdpfbodmfjkkaaRows
import Derived.Test.YtkdpfbodmfjkkaaPlain
import Derived.Test.YtkdpfbodmfjkkaaAppend
import Derived.Test.YtkdpfbodmfjkkaaCrypto
import Derived.Test.YtkdpfbodmfjkkaaCol
namespace Go.Proofs.Ytkdpfbodmfjkkaa
open Go.RowKit

def keysI (ks : List (List Int)) (o : Int) (k : Nat) : List Int := ((List.range k).filter fun i => fld ks i 1 == o).map fun i => fld ks i 0
theorem keysI_yes {ks : List (List Int)} {o : Int} {k : Nat} (h : (fld ks k 1 == o) = true) : keysI ks o (k + 1) = keysI ks o k ++ [fld ks k 0] := by
  simp [keysI, List.range_succ, List.filter_append, h]
theorem keysI_no {ks : List (List Int)} {o : Int} {k : Nat} (h : (fld ks k 1 == o) = false) : keysI ks o (k + 1) = keysI ks o k := by
  simp [keysI, List.range_succ, List.filter_append, h]
theorem keysI_le (ks : List (List Int)) (o : Int) (k : Nat) : (keysI ks o k).length ≤ k := by
  have := List.length_filter_le (fun i => fld ks i 1 == o) (List.range k)
  simpa [keysI] using this

set_option maxHeartbeats 4000000 in
theorem implKeysOf_any {B : Nat} {ks : List (List Int)} {v : Value} (o : Int) (w : World) (h : Sl B w 5 v ks) (hB : B ≤ w.heap.size) (hn : ks.length ≤ 1099511627776) :
    Calls Try.prog 44 #[v, iv o] w (RetOwn 3 1 (keysI ks o ks.length).length ((keysI ks o ks.length).map (Value.int .i64)) w) := by
  obtain ⟨A, c, rfl, hc1, hc2, -, hcell⟩ := h
  have HC := hid hcell
  clear hcell
  go_enter Try.func44, Try.ntmps44
  go_wp2
  go_loopw [5, 10] (fun l i wr => ∃ k : Nat, k ≤ ks.length ∧ i = .int .i64 k ∧ wr.ownsRow w.heap.size 3 1 l (keysI ks o k).length ((keysI ks o k).map (Value.int .i64)) ∧ Below w.heap.size w wr) (fun _ i _ => ks.length - (intOf i).toNat)
  case atStart => exact ⟨0, Nat.zero_le _, rfl, World.ownsRow_nil _ _ _ _, Below.refl _ _⟩
  case round =>
    obtain ⟨k, hk, rfl, how, hb⟩ := hrel
    by_cases hlt : k < ks.length
    · obtain ⟨b, off, rfl, hbB, hcc⟩ := HC.out (by omega)
      have c0 := cell_at hb hbB hB (hcc k 0 hlt (by omega))
      have c1 := cell_at hb hbB hB (hcc k 1 hlt (by omega))
      have c2 := cell_at hb hbB hB (hcc k 2 hlt (by omega))
      have c3 := cell_at hb hbB hB (hcc k 3 hlt (by omega))
      have c4 := cell_at hb hbB hB (hcc k 4 hlt (by omega))
      rw [Nat.add_zero] at c0
      have hle := keysI_le ks o k
      have HOW := hid how
      have HBL := hid hb
      clear HC hcc hb how
      cases h0 : (fld ks k 1 == o)
      · have HT := hid (keysI_no h0)
        have HO1 := hid (HOW.out.alloc (.cells #[iv (fld ks k 0), iv (fld ks k 1), iv (fld ks k 2), iv (fld ks k 3), iv (fld ks k 4)] 64))
        have HB1 := hid (HBL.out.alloc HBL.out.size (.cells #[iv (fld ks k 0), iv (fld ks k 1), iv (fld ks k 2), iv (fld ks k 3), iv (fld ks k 4)] 64))
        go_wp2
        go_roundw
        case rel => exact ⟨k + 1, by omega, by go_num, by rw [HT.out]; exact HO1.out, HB1.out⟩
        case measure => simp [intOf]; omega
      · have HT := hid (keysI_yes h0)
        go_wp2_with (first | (at_builtin; refine wpList_append_src _ rfl _ _ 23 rfl w.heap.size 3 Try.underlying23 Try.infoI rfl (by decide) _ _ (keysI ks o k).length 1 _ [iv (fld ks k 0)] rfl rfl ((HOW.out.alloc _).alloc _) (Src.lit (cs := #[iv (fld ks k 0)]) (m := 1) (size := 1) (heap_new_at (wr.alloc (.cells #[iv (fld ks k 0), iv (fld ks k 1), iv (fld ks k 2), iv (fld ks k 3), iv (fld ks k 4)] 64)) _ (by simp)) rfl (by simp [Value.oneCell']) 1) (by unfold maxLen; omega) (by omega) (Nat.le_trans HBL.out.size (by simp; try omega)) ?_; intro v1 w1 hown1 hg1; have HO1 := hid hown1; have HB1 := hid (below_grown ((HBL.out.alloc HBL.out.size _).alloc (Nat.le_trans HBL.out.size (by simp)) _) ((HOW.out.alloc _).alloc _) hg1 (Nat.le_refl _) (Nat.le_trans HBL.out.size (by simp; try omega))); clear hown1 hg1) | go_in)
        go_roundw
        case rel => exact ⟨k + 1, by omega, by go_num, by rw [HT.out, List.map_append, List.length_append]; exact HO1.out, HB1.out⟩
        case measure => simp [intOf]; omega
    · obtain rfl : k = ks.length := by omega
      have HO := hid how
      have HBL := hid hb
      clear how hb HC
      go_wp2
      go_ret
      exact ⟨_, rfl, Own.of HO.out, HBL.out⟩
end Go.Proofs.Ytkdpfbodmfjkkaa
