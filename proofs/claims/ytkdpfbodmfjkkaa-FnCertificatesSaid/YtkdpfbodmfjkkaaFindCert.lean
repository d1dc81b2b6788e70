/- FindCert of the program and of the reference return what the plain functions say. No condition. -/
import Derived.Test.YtkdpfbodmfjkkaaRows
import Derived.Test.YtkdpfbodmfjkkaaPlain
namespace Go.Proofs.Ytkdpfbodmfjkkaa
open Go.RowKit

set_option maxHeartbeats 400000 in
theorem implFindCert_any {B : Nat} {ks : List (List Int)} {v : Value} (num : Int) (w : World) (h : Sl B w 7 v ks) (hB : B ≤ w.heap.size) :
    Calls Try.prog 53 #[v, iv num] w (Ret (iv (findI 0 num ks)) w) := by
  obtain ⟨A, c, rfl, hc1, hc2, -, hcell⟩ := h
  have HC := hid hcell
  clear hcell
  go_enter Try.func53, Try.ntmps53
  go_wp2
  go_loopw [9] (fun i wr => ∃ k : Nat, k ≤ ks.length ∧ i = .int .i64 k ∧ NF 0 num ks k ∧ Below w.heap.size w wr) (fun i _ => ks.length - (intOf i).toNat)
  case atStart => exact ⟨0, Nat.zero_le _, rfl, NF_zero _ _ _, Below.refl _ _⟩
  case round =>
    obtain ⟨k, hk, rfl, hnf, hb⟩ := hrel
    by_cases hlt : k < ks.length
    · obtain ⟨b, off, rfl, hbB, hcc⟩ := HC.out (by omega)
      have c0 := cell_at hb hbB hB (hcc k 0 hlt (by omega))
      have c1 := cell_at hb hbB hB (hcc k 1 hlt (by omega))
      have c2 := cell_at hb hbB hB (hcc k 2 hlt (by omega))
      have c3 := cell_at hb hbB hB (hcc k 3 hlt (by omega))
      have c4 := cell_at hb hbB hB (hcc k 4 hlt (by omega))
      have c5 := cell_at hb hbB hB (hcc k 5 hlt (by omega))
      have c6 := cell_at hb hbB hB (hcc k 6 hlt (by omega))
      rw [Nat.add_zero] at c0
      have HB := hid hb
      clear HC hcc hb
      go_wp2
      · go_ret
        exact ⟨ret_int (findI_hit hnf hlt (by assumption)).symm, HB.out.alloc HB.out.size _⟩
      · go_roundw
        case rel => exact ⟨k + 1, by omega, by go_num, NF_succ hnf (by assumption), HB.out.alloc HB.out.size _⟩
        case measure => simp [intOf]; omega
    · have HB := hid hb
      clear hb
      go_wp2
      go_ret
      exact ⟨ret_int (findI_miss hnf (by omega)).symm, HB.out⟩

end Go.Proofs.Ytkdpfbodmfjkkaa
