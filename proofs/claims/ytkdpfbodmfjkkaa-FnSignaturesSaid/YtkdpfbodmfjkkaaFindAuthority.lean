/- FindAuthority of the program and of the reference return what the plain functions say. No condition. -/
import Derived.Test.YtkdpfbodmfjkkaaRows
import Derived.Test.YtkdpfbodmfjkkaaPlain
namespace Go.Proofs.Ytkdpfbodmfjkkaa
open Go.RowKit

set_option maxHeartbeats 400000 in
theorem implFindAuthority_any {B : Nat} {ks : List (List Int)} {v : Value} (num : Int) (w : World) (h : Sl B w 3 v ks) (hB : B ≤ w.heap.size) :
    Calls Try.prog 131 #[v, iv num] w (Ret (iv (findI 0 num ks)) w) := by
  obtain ⟨A, c, rfl, hc1, hc2, -, hcell⟩ := h
  have HC := hid hcell
  clear hcell
  go_enter Try.func131, Try.ntmps131
  go_wp2
  go_loopw [9] (fun i wr => ∃ k : Nat, k ≤ ks.length ∧ i = .int .i64 k ∧ NF 0 num ks k ∧ Below w.heap.size w wr) (fun i _ => ks.length - (intOf i).toNat)
  case atStart => exact ⟨0, Nat.zero_le _, rfl, NF_zero _ _ _, Below.refl _ _⟩
  case round =>
    obtain ⟨k, hk, rfl, hnf, hb⟩ := hrel
    by_cases hlt : k < ks.length
    · obtain ⟨b, off, rfl, hbB, hcc⟩ := HC.out (by omega)
      have c0 := cell_at hb hbB hB (hcc k 0 hlt (by omega))
      have c1 := cell_at hb hbB hB (hcc k 1 hlt (by omega))
      have c2 := cell_at hb hbB hB (hcc k 2 hlt (by omega))
      rw [Nat.add_zero] at c0
      have HB := hid hb
      clear HC hcc hb
      go_wp2
      · go_ret
        exact ⟨ret_int (findI_hit hnf hlt (by assumption)).symm, HB.out.alloc HB.out.size _⟩
      · go_roundw
        case rel => exact ⟨k + 1, by omega, by go_num, NF_succ hnf (by assumption), HB.out.alloc HB.out.size _⟩
        case measure => simp [intOf]; omega
    · have HB := hid hb
      clear hb
      go_wp2
      go_ret
      exact ⟨ret_int (findI_miss hnf (by omega)).symm, HB.out⟩
set_option maxHeartbeats 400000 in
theorem specFindAuthority_any {B : Nat} {ks : List (List Int)} {v : Value} (num : Int) (w : World) (h : Sl B w 3 v ks) (_hB : B ≤ w.heap.size) :
    Calls Try.prog 133 #[v, iv num] w (Ret (iv (findI 0 num ks)) w) := by
  obtain ⟨A, c, rfl, hc1, hc2, -, hcell⟩ := h
  have HC := hid hcell
  clear hcell
  go_enter Try.func133, Try.ntmps133
  go_wp2
  go_loop [5] (fun i => ∃ k : Nat, k ≤ ks.length ∧ i = .int .i64 k ∧ NF 0 num ks k) (fun i => ks.length - (intOf i).toNat)
  case atStart => exact ⟨0, Nat.zero_le _, rfl, NF_zero _ _ _⟩
  case round =>
    obtain ⟨k, hk, rfl, hnf⟩ := hrel
    by_cases hlt : k < ks.length
    · obtain ⟨b, off, rfl, hbB, hcc⟩ := HC.out (by omega)
      have c0 := hcc k 0 hlt (by omega)
      rw [Nat.add_zero] at c0
      clear HC hcc
      go_wp2
      · go_ret
        exact ⟨ret_int (findI_hit hnf hlt (by assumption)).symm, Below.refl _ _⟩
      · go_round
        case rel => exact ⟨k + 1, by omega, by go_num, NF_succ hnf (by assumption)⟩
        case measure => simp [intOf]; omega
    · go_wp2
      go_ret
      exact ⟨ret_int (findI_miss hnf (by omega)).symm, Below.refl _ _⟩

set_option maxHeartbeats 400000 in
theorem implStampKey_any {B : Nat} {ks : List (List Int)} {v : Value} (a0 a1 a2 a3 a4 : Int) (w : World) (h : Sl B w 3 v ks) (hB : B ≤ w.heap.size) :
    Calls Try.prog 68 #[v, .agg #[iv a0, iv a1, iv a2, iv a3, iv a4]] w (Ret (iv (stampKey a0 ks)) w) := by
  go_enter Try.func68, Try.ntmps68
  go_wp2_with fail
  have h1 := h.below (below_alloc w (.cells #[iv a0, iv a1, iv a2, iv a3, iv a4] 101)) hB
  refine (implFindAuthority_any a0 _ h1 (by simp; omega)).mono ?_
  rintro e w1 ⟨rfl, hb1⟩
  have HB := hid (below_step (below_alloc _ _) hb1)
  obtain ⟨A, c, rfl, hc1, hc2, -, hcell⟩ := h1.below hb1 (by simp; omega)
  clear hb1 h h1
  rcases findI_range 0 a0 ks with hf | ⟨k, hk, hf, -⟩
  · have HF := hid (stampKey_none hf)
    rw [hf]
    clear hf
    go_wp2
    go_ret
    exact ⟨ret_int HF.out, HB.out⟩
  · have HF := hid (stampKey_some hf)
    rw [hf]
    obtain ⟨b, off, rfl, hbB, hcc⟩ := hcell (by omega)
    have c1 := hcc k 1 hk (by omega)
    clear hcc hcell hf
    go_wp2
    go_ret
    exact ⟨ret_int HF.out, HB.out⟩


end Go.Proofs.Ytkdpfbodmfjkkaa
