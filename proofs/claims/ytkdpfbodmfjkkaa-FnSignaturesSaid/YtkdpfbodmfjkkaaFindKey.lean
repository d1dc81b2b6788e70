/- FindKey of the program and of the reference return what the plain functions say. No condition. -/
import Derived.Test.YtkdpfbodmfjkkaaRows
import Derived.Test.YtkdpfbodmfjkkaaPlain
namespace Go.Proofs.Ytkdpfbodmfjkkaa
open Go.RowKit

set_option maxHeartbeats 400000 in
theorem implFindKey_any {B : Nat} {ks : List (List Int)} {v : Value} (num : Int) (w : World) (h : Sl B w 5 v ks) (hB : B ≤ w.heap.size) :
    Calls Try.prog 37 #[v, iv num] w (Ret (iv (findI 0 num ks)) w) := by
  obtain ⟨A, c, rfl, hc1, hc2, -, hcell⟩ := h
  have HC := hid hcell
  clear hcell
  go_enter Try.func37, Try.ntmps37
  go_wp2
  go_loopw [9] (fun i wr => ∃ k : Nat, k ≤ ks.length ∧ i = .int .i64 k ∧ NF 0 num ks k ∧ Below w.heap.size w wr) (fun i _ => ks.length - (intOf i).toNat)
  case atStart => exact ⟨0, Nat.zero_le _, rfl, NF_zero _ _ _, Below.refl _ _⟩
  case round =>
    obtain ⟨k, hk, rfl, hnf, hb⟩ := hrel
    by_cases hlt : k < ks.length
    · obtain ⟨b, off, rfl, hbB, hcc⟩ := HC.out (by omega)
      have c0 := cell_at hb hbB hB (hcc k 0 hlt (by omega))
      have c1 := cell_at hb hbB hB (hcc k 1 hlt (by omega))
      have c2 := cell_at hb hbB hB (hcc k 2 hlt (by omega))
      have c3 := cell_at hb hbB hB (hcc k 3 hlt (by omega))
      have c4 := cell_at hb hbB hB (hcc k 4 hlt (by omega))
      rw [Nat.add_zero] at c0
      have HB := hid hb
      clear HC hcc hb
      go_wp2
      · go_ret
        exact ⟨ret_int (findI_hit hnf hlt (by assumption)).symm, HB.out.alloc HB.out.size _⟩
      · go_roundw
        case rel => exact ⟨k + 1, by omega, by go_num, NF_succ hnf (by assumption), HB.out.alloc HB.out.size _⟩
        case measure => simp [intOf]; omega
    · have HB := hid hb
      clear hb
      go_wp2
      go_ret
      exact ⟨ret_int (findI_miss hnf (by omega)).symm, HB.out⟩
set_option maxHeartbeats 400000 in
theorem specFindKey_any {B : Nat} {ks : List (List Int)} {v : Value} (num : Int) (w : World) (h : Sl B w 5 v ks) (_hB : B ≤ w.heap.size) :
    Calls Try.prog 112 #[v, iv num] w (Ret (iv (findI 0 num ks)) w) := by
  obtain ⟨A, c, rfl, hc1, hc2, -, hcell⟩ := h
  have HC := hid hcell
  clear hcell
  go_enter Try.func112, Try.ntmps112
  go_wp2
  go_loop [5] (fun i => ∃ k : Nat, k ≤ ks.length ∧ i = .int .i64 k ∧ NF 0 num ks k) (fun i => ks.length - (intOf i).toNat)
  case atStart => exact ⟨0, Nat.zero_le _, rfl, NF_zero _ _ _⟩
  case round =>
    obtain ⟨k, hk, rfl, hnf⟩ := hrel
    by_cases hlt : k < ks.length
    · obtain ⟨b, off, rfl, hbB, hcc⟩ := HC.out (by omega)
      have c0 := hcc k 0 hlt (by omega)
      rw [Nat.add_zero] at c0
      clear HC hcc
      go_wp2
      · go_ret
        exact ⟨ret_int (findI_hit hnf hlt (by assumption)).symm, Below.refl _ _⟩
      · go_round
        case rel => exact ⟨k + 1, by omega, by go_num, NF_succ hnf (by assumption)⟩
        case measure => simp [intOf]; omega
    · go_wp2
      go_ret
      exact ⟨ret_int (findI_miss hnf (by omega)).symm, Below.refl _ _⟩

set_option maxHeartbeats 400000 in
theorem implOwnerOf_any {B : Nat} {ks : List (List Int)} {v : Value} (num : Int) (w : World) (h : Sl B w 5 v ks) (hB : B ≤ w.heap.size) :
    Calls Try.prog 46 #[v, iv num] w (Ret (iv (ownerOf num ks)) w) := by
  go_enter Try.func46, Try.ntmps46
  go_wp2_with fail
  refine (implFindKey_any num w h hB).mono ?_
  rintro e w1 ⟨rfl, hb1⟩
  have HB := hid hb1
  obtain ⟨A, c, rfl, hc1, hc2, -, hcell⟩ := h.below hb1 hB
  clear hb1 h
  rcases findI_range 0 num ks with hf | ⟨k, hk, hf, -⟩
  · have HF := hid (ownerOf_none hf)
    rw [hf]
    clear hf
    go_wp2
    go_ret
    exact ⟨ret_int HF.out, HB.out⟩
  · have HF := hid (ownerOf_some hf)
    rw [hf]
    obtain ⟨b, off, rfl, hbB, hcc⟩ := hcell (by omega)
    have c1 := hcc k 1 hk (by omega)
    clear hcc hcell hf
    go_wp2
    go_ret
    exact ⟨ret_int HF.out, HB.out⟩

set_option maxHeartbeats 400000 in
theorem specOwnerOf_any {B : Nat} {ks : List (List Int)} {v : Value} (num : Int) (w : World) (h : Sl B w 5 v ks) (hB : B ≤ w.heap.size) :
    Calls Try.prog 128 #[v, iv num] w (Ret (iv (ownerOf num ks)) w) := by
  go_enter Try.func128, Try.ntmps128
  go_wp2_with fail
  refine (specFindKey_any num w h hB).mono ?_
  rintro e w1 ⟨rfl, hb1⟩
  have HB := hid hb1
  obtain ⟨A, c, rfl, hc1, hc2, -, hcell⟩ := h.below hb1 hB
  clear hb1 h
  rcases findI_range 0 num ks with hf | ⟨k, hk, hf, -⟩
  · have HF := hid (ownerOf_none hf)
    rw [hf]
    clear hf
    go_wp2
    go_ret
    exact ⟨ret_int HF.out, HB.out⟩
  · have HF := hid (ownerOf_some hf)
    rw [hf]
    obtain ⟨b, off, rfl, hbB, hcc⟩ := hcell (by omega)
    have c1 := hcc k 1 hk (by omega)
    clear hcc hcell hf
    go_wp2
    go_ret
    exact ⟨ret_int HF.out, HB.out⟩

end Go.Proofs.Ytkdpfbodmfjkkaa
