/- StampsDigest of the program and of the reference: 0 of no stamps, else the digest of the marks, at least 1. Condition: no more than 2^40 stamps. -/
import Derived.Test.YtkdpfbodmfjkkaaRows
import Derived.Test.YtkdpfbodmfjkkaaPlain
import Derived.Test.YtkdpfbodmfjkkaaAppend
import Derived.Test.YtkdpfbodmfjkkaaDigest
import Derived.Test.YtkdpfbodmfjkkaaCol
namespace Go.Proofs.Ytkdpfbodmfjkkaa
open Go.RowKit

def stampsI (m : Int) (ks : List (List Int)) : Int := if ks.length = 0 then 0 else mx 1 (digestI m (colI ks 4 ks.length))
theorem stampsI_nil {m : Int} {ks : List (List Int)} (h : ks.length = 0) : 0 = stampsI m ks := by simp [stampsI, h]
theorem stampsI_some {m : Int} {ks : List (List Int)} (h : 0 < ks.length) : mx 1 (digestI m (colI ks 4 ks.length)) = stampsI m ks := by
  unfold stampsI; rw [if_neg (by omega)]
set_option maxHeartbeats 400000 in
theorem specMax_any (a b : Int) (w : World) : Calls Try.prog 198 #[iv a, iv b] w (Ret (iv (mx a b)) w) := by
  by_cases h : a < b
  · have HM := hid (mx_lt h)
    go_enter Try.func198, Try.ntmps198
    go_wp2
    go_ret
    exact ⟨ret_int HM.out.symm, Below.refl _ _⟩
  · have HM := hid (mx_ge (show b ≤ a by omega))
    go_enter Try.func198, Try.ntmps198
    go_wp2
    go_ret
    exact ⟨ret_int HM.out.symm, Below.refl _ _⟩
set_option maxHeartbeats 400000 in
theorem implMax_any (a b : Int) (w : World) : Calls Try.prog 40 #[iv a, iv b] w (Ret (iv (mx a b)) w) := by
  by_cases h : a < b
  · have HM := hid (mx_lt h)
    go_enter Try.func40, Try.ntmps40
    go_wp2
    go_ret
    exact ⟨ret_int HM.out.symm, Below.refl _ _⟩
  · have HM := hid (mx_ge (show b ≤ a by omega))
    go_enter Try.func40, Try.ntmps40
    go_wp2
    go_ret
    exact ⟨ret_int HM.out.symm, Below.refl _ _⟩

set_option maxHeartbeats 4000000 in
theorem implStampsDigest_any {B : Nat} {ks : List (List Int)} {v : Value} (m : Int) (w : World) (h : Sl B w 5 v ks) (hB : B ≤ w.heap.size) (hn : ks.length ≤ 1099511627776) :
    Calls Try.prog 77 #[iv m, v] w (Ret (iv (stampsI m ks)) w) := by
  obtain ⟨A, c, rfl, hc1, hc2, -, hcell⟩ := h
  have HC := hid hcell
  clear hcell
  by_cases hz : ks.length = 0
  · have HT := hid (stampsI_nil (m := m) hz)
    go_enter Try.func77, Try.ntmps77
    go_wp2
    go_ret
    exact ⟨ret_int HT.out, Below.refl _ _⟩
  have hpos : 0 < ks.length := by omega
  have hz' : ((ks.length : Int) == 0) = false := by rw [beq_eq_false_iff_ne]; omega
  clear hz
  have HT := hid (stampsI_some (m := m) hpos)
  go_enter Try.func77, Try.ntmps77
  go_wp2
  go_loopw [5, 13] (fun l i wr => ∃ k : Nat, k ≤ ks.length ∧ i = .int .i64 k ∧ wr.ownsRow w.heap.size 3 1 l k ((colI ks 4 k).map (Value.int .i64)) ∧ Below w.heap.size w wr) (fun _ i _ => ks.length - (intOf i).toNat)
  case atStart => exact ⟨0, Nat.zero_le _, rfl, World.ownsRow_nil _ _ _ _, Below.refl _ _⟩
  case round =>
    obtain ⟨k, hk, rfl, how, hb⟩ := hrel
    by_cases hlt : k < ks.length
    · obtain ⟨b, off, rfl, hbB, hcc⟩ := HC.out (by omega)
      have c0 := cell_at hb hbB hB (hcc k 0 hlt (by omega))
      have c1 := cell_at hb hbB hB (hcc k 1 hlt (by omega))
      have c2 := cell_at hb hbB hB (hcc k 2 hlt (by omega))
      have c3 := cell_at hb hbB hB (hcc k 3 hlt (by omega))
      have c4 := cell_at hb hbB hB (hcc k 4 hlt (by omega))
      rw [Nat.add_zero] at c0
      have HOW := hid how
      have HBL := hid hb
      clear HC hcc hb how
      go_wp2_with (first | (at_builtin; refine wpList_append_src _ rfl _ _ 23 rfl w.heap.size 3 Try.underlying23 Try.infoI rfl (by decide) _ _ k 1 _ [iv (fld ks k 4)] rfl rfl ((HOW.out.alloc _).alloc _) (Src.lit (cs := #[iv (fld ks k 4)]) (m := 1) (size := 1) (heap_new_at (wr.alloc (.cells #[iv (fld ks k 0), iv (fld ks k 1), iv (fld ks k 2), iv (fld ks k 3), iv (fld ks k 4)] 101)) _ (by simp)) rfl (by simp [Value.oneCell']) 1) (by unfold maxLen; omega) (by omega) (Nat.le_trans HBL.out.size (by simp; try omega)) ?_; intro v1 w1 hown1 hg1; have HO1 := hid hown1; have HB1 := hid (below_grown ((HBL.out.alloc HBL.out.size _).alloc (Nat.le_trans HBL.out.size (by simp)) _) ((HOW.out.alloc _).alloc _) hg1 (Nat.le_refl _) (Nat.le_trans HBL.out.size (by simp; try omega))); clear hown1 hg1) | go_in)
      go_roundw
      case rel => exact ⟨k + 1, by omega, by go_num, by rw [colI_succ, List.map_append]; exact HO1.out, HB1.out⟩
      case measure => simp [intOf]; omega
    · obtain rfl : k = ks.length := by omega
      have HO := hid how
      have HBL := hid hb
      clear how hb HC
      go_wp2_with fail
      refine (implDigestOf_any (zs := colI ks 4 ks.length) _ _ (Own.si (Own.of (by rw [colI_length]; exact HO.out))) (Nat.le_refl _) (by rw [colI_length]; omega)).mono ?_
      rintro e w2 ⟨rfl, hb2⟩
      have HB2 := hid (below_step HBL.out hb2)
      clear hb2
      go_wp2_with fail
      refine (implMax_any _ _ _).mono ?_
      rintro e w3 ⟨rfl, hb3⟩
      have HB3 := hid (below_step HB2.out hb3)
      clear hb3
      go_wp2
      go_ret
      exact ⟨ret_int HT.out, HB3.out⟩
end Go.Proofs.Ytkdpfbodmfjkkaa
