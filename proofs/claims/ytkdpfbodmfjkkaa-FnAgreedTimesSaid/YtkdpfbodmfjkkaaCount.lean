/- CountAt and IsSupported, of the program and of the reference, return what the plain functions say. No condition. -/
import Derived.Test.YtkdpfbodmfjkkaaRows
import Derived.Test.YtkdpfbodmfjkkaaPlain
import Derived.Test.YtkdpfbodmfjkkaaChkSpan
namespace Go.Proofs.Ytkdpfbodmfjkkaa
open Go.RowKit

set_option maxHeartbeats 1000000 in
theorem implCountAt_any {B : Nat} {ks : List (List Int)} {v : Value} (t : Int) (w : World) (h : Sl B w 2 v ks) (hB : B ≤ w.heap.size) :
    Calls Try.prog 30 #[v, iv t] w (Ret (iv (cntTo ks t ks.length : Nat)) w) := by
  obtain ⟨A, c, rfl, hc1, hc2, -, hcell⟩ := h
  have HC := hid hcell
  clear hcell
  go_enter Try.func30, Try.ntmps30
  go_wp2
  go_loopw [5, 10] (fun n i wr => ∃ k : Nat, k ≤ ks.length ∧ i = .int .i64 k ∧ n = .int .i64 (cntTo ks t k : Nat) ∧ Below w.heap.size w wr) (fun _ i _ => ks.length - (intOf i).toNat)
  case atStart => exact ⟨0, Nat.zero_le _, rfl, rfl, Below.refl _ _⟩
  case round =>
    obtain ⟨k, hk, rfl, rfl, hb⟩ := hrel
    by_cases hlt : k < ks.length
    · obtain ⟨b, off, rfl, hbB, hcc⟩ := HC.out (by omega)
      have c0 := cell_at hb hbB hB (hcc k 0 hlt (by omega))
      have c1 := cell_at hb hbB hB (hcc k 1 hlt (by omega))
      rw [Nat.add_zero] at c0
      have hcl := cntTo_le ks t k
      have HB := hid hb
      clear HC hcc hb
      have HT := hid (cntTo_succ ks t k)
      cases hsp : spanB (fld ks k 0) (fld ks k 1)
      · rw [inSp_of_not (t := t) hsp] at HT
        go_wp2_with (first | (go_at_call 31; refine (implIsSpan_any _ _ _).mono ?_; rintro e w1 ⟨rfl, hb1⟩; have HB1 := hid (below_step (HB.out.alloc HB.out.size _) hb1); clear hb1) | go_in)
        go_roundw
        case rel => exact ⟨k + 1, by omega, by go_num, (by rw [HT.out]; try rfl), HB1.out⟩
        case measure => simp [intOf]; omega
      · by_cases hin : fld ks k 0 ≤ t ∧ t ≤ fld ks k 1
        · rw [inSp_of hsp hin.1 hin.2] at HT
          obtain ⟨hi0, hi1⟩ := hin
          go_wp2_with (first | (go_at_call 31; refine (implIsSpan_any _ _ _).mono ?_; rintro e w1 ⟨rfl, hb1⟩; have HB1 := hid (below_step (HB.out.alloc HB.out.size _) hb1); obtain ⟨hx, -⟩ := bcell hb1; have hz := below_size hb1; clear hb1) | go_in)
          go_roundw
          case rel => exact ⟨k + 1, by omega, by go_num, (by rw [HT.out]; try rfl), HB1.out⟩
          case measure => simp [intOf]; omega
        · rw [inSp_of_out hin] at HT
          by_cases hi0 : fld ks k 0 ≤ t
          · have hi1 : fld ks k 1 < t := by omega
            clear hin
            go_wp2_with (first | (go_at_call 31; refine (implIsSpan_any _ _ _).mono ?_; rintro e w1 ⟨rfl, hb1⟩; have HB1 := hid (below_step (HB.out.alloc HB.out.size _) hb1); obtain ⟨hx, -⟩ := bcell hb1; have hz := below_size hb1; clear hb1) | go_in)
            go_roundw
            case rel => exact ⟨k + 1, by omega, by go_num, (by rw [HT.out]; try rfl), HB1.out⟩
            case measure => simp [intOf]; omega
          · clear hin
            go_wp2_with (first | (go_at_call 31; refine (implIsSpan_any _ _ _).mono ?_; rintro e w1 ⟨rfl, hb1⟩; have HB1 := hid (below_step (HB.out.alloc HB.out.size _) hb1); obtain ⟨hx, -⟩ := bcell hb1; have hz := below_size hb1; clear hb1) | go_in)
            go_roundw
            case rel => exact ⟨k + 1, by omega, by go_num, (by rw [HT.out]; try rfl), HB1.out⟩
            case measure => simp [intOf]; omega
    · obtain rfl : k = ks.length := by omega
      have HB := hid hb
      clear hb
      go_wp2
      go_ret
      exact ⟨rfl, HB.out⟩
set_option maxHeartbeats 1000000 in
theorem implIsSupported_any {B : Nat} {ks : List (List Int)} {v : Value} (t liars : Int) (w : World) (h : Sl B w 2 v ks) (hB : B ≤ w.heap.size) :
    Calls Try.prog 29 #[v, iv t, iv liars] w (Ret (.bool (supB ks t liars)) w) := by
  obtain ⟨A, c, rfl, hc1, hc2, -⟩ := id h
  have hcl := cntTo_le ks t ks.length
  by_cases hi : 0 ≤ liars ∧ liars ≤ (ks.length : Int) - 1
  · have HT := hid (supB_in (t := t) hi)
    obtain ⟨h0, h1⟩ := hi
    go_enter Try.func29, Try.ntmps29
    go_wp2_with (first | (go_at_call 30; refine (implCountAt_any _ _ h hB).mono ?_; rintro e w1 ⟨rfl, hb1⟩; have HB1 := hid hb1; clear hb1) | go_in)
    all_goals
      go_ret
      exact ⟨ret_bool (by rw [HT.out]), HB1.out⟩
  · have HT := hid (supB_out (t := t) hi)
    by_cases h0 : 0 ≤ liars
    · have h1 : (ks.length : Int) - 1 < liars := by omega
      clear hi
      go_enter Try.func29, Try.ntmps29
      go_wp2_with go_in
      go_ret
      exact ⟨ret_bool HT.out.symm, Below.refl _ _⟩
    · clear hi
      go_enter Try.func29, Try.ntmps29
      go_wp2_with go_in
      go_ret
      exact ⟨ret_bool HT.out.symm, Below.refl _ _⟩
end Go.Proofs.Ytkdpfbodmfjkkaa
