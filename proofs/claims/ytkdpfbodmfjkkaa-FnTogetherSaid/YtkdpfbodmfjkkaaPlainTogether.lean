/- What the law FnTogether asks of a rule and its signatures, of the plain functions alone. Condition: no owner's number is below 0. -/
import Derived.Test.YtkdpfbodmfjkkaaBase
import Derived.Test.YtkdpfbodmfjkkaaPlain
import Derived.Test.YtkdpfbodmfjkkaaHas
import Derived.Test.YtkdpfbodmfjkkaaIsSignRule
import Derived.Test.YtkdpfbodmfjkkaaSignatureOf
import Derived.Test.YtkdpfbodmfjkkaaMissing
import Derived.Test.YtkdpfbodmfjkkaaMeetsRule
import Derived.Test.YtkdpfbodmfjkkaaBeforeFor
namespace Go.Proofs.Ytkdpfbodmfjkkaa
open Go.RowKit

theorem mem_miss {ks ls : List (List Int)} {os : List Int} {d x : Int} {n : Nat} : x ∈ missI ks ls os d n ↔ ∃ i, i < n ∧ sigOf ks ls (nth os i) d < 0 ∧ nth os i = x := by
  unfold missI
  simp only [List.mem_map, List.mem_filter, List.mem_range, decide_eq_true_eq]
  constructor
  · rintro ⟨i, ⟨h1, h2⟩, h3⟩; exact ⟨i, h1, h2, h3⟩
  · rintro ⟨i, h1, h2, h3⟩; exact ⟨i, ⟨h1, h2⟩, h3⟩
theorem hasB_mem {x : Int} {zs : List Int} : hasB x zs = true ↔ x ∈ zs := by
  unfold hasB
  rw [decide_eq_true_eq]
  constructor
  · intro h
    rcases idxI_range x zs with h1 | ⟨k, hk, h1, h2⟩
    · omega
    · rw [← h2, nth, List.getD, List.getElem?_eq_getElem hk]
      exact List.getElem_mem hk
  · intro h
    unfold idxI
    cases hx : zs.findIdx? (fun r => r == x) with
    | some i => simp
    | none =>
      rw [List.findIdx?_eq_none_iff] at hx
      have := hx x h
      simp at this
/-- An owner is among the missing ones just where he has no signature. -/
theorem has_miss {ks ls : List (List Int)} {os : List Int} {d : Int} {i : Nat} (hi : i < os.length) : hasB (nth os i) (missI ks ls os d os.length) = decide (sigOf ks ls (nth os i) d < 0) := by
  rw [Bool.eq_iff_iff, hasB_mem, mem_miss, decide_eq_true_eq]
  constructor
  · rintro ⟨j, hj, h1, h2⟩; rw [← h2]; exact h1
  · intro h; exact ⟨i, hi, h, rfl⟩
theorem next_pos {ks ls : List (List Int)} {os : List Int} {d : Int} (ho : ∀ o ∈ os, 0 ≤ o) (h : 0 < (missI ks ls os d os.length).length) : 0 ≤ nextOw ks ls os d := by
  rw [← nextOw_some h]
  have hm : nth (missI ks ls os d os.length) 0 ∈ missI ks ls os d os.length := by
    rw [nth, List.getD, List.getElem?_eq_getElem h]
    exact List.getElem_mem h
  obtain ⟨i, hi, -, h2⟩ := mem_miss.1 hm
  rw [← h2]
  refine ho _ ?_
  rw [nth, List.getD, List.getElem?_eq_getElem hi]
  exact List.getElem_mem hi
theorem meets_free {ks ls : List (List Int)} {os : List Int} {d : Int} (h : (missI ks ls os d os.length).length = 0) : meetsB ks ls os false d = ruleB os := by
  have : (List.range os.length).all (stepOk ks ls os false d) = true := by
    rw [List.all_eq_true]
    exact fun i hi => step_free (miss_none h i (List.mem_range.1 hi))
  unfold meetsB
  rw [this, Bool.and_true]
theorem sig_held {ks ls : List (List Int)} {o d : Int} {k : Nat} (h : isSig ks ls o d k = true) : checkSignatureB ks (fld ls k 0) (fld ls k 1) (fld ls k 2) (fld ls k 3) (fld ls k 4) (fld ls k 5) (fld ls k 6) (fld ls k 7) (fld ls k 8) = true ∧ fld ls k 3 = d := by
  unfold isSig at h
  simp only [Bool.and_eq_true, beq_iff_eq] at h
  exact ⟨h.1.1, h.2⟩
end Go.Proofs.Ytkdpfbodmfjkkaa
