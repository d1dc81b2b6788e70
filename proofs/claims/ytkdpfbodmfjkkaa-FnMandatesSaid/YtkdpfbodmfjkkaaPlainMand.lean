/- Of mandates joined into spans: who may sign at a span is covered at each of its times by one of the mandates. Condition: an organization's number that is not zero. -/
import Derived.Test.YtkdpfbodmfjkkaaBase
import Derived.Test.YtkdpfbodmfjkkaaPlain
import Derived.Test.YtkdpfbodmfjkkaaPlainJoin
import Derived.Test.YtkdpfbodmfjkkaaCheckMandate
import Derived.Test.YtkdpfbodmfjkkaaMandSpans
import Derived.Test.YtkdpfbodmfjkkaaCovers
import Derived.Test.YtkdpfbodmfjkkaaMaySign
namespace Go.Proofs.Ytkdpfbodmfjkkaa
open Go.RowKit

/-- Mandate j holds for that organization and that person at t. -/
def satB (ks ls : List (List Int)) (o p t : Int) (j : Nat) : Bool := checkMandateB ks (fld ls j 0) (fld ls j 1) (fld ls j 2) (fld ls j 3) (fld ls j 4) (fld ls j 5) && (fld ls j 0 == o) && (fld ls j 1 == p) && decide (fld ls j 2 ≤ t) && decide (t ≤ fld ls j 3)
/-- The time z is in one of the rows. -/
def InRow (L : List (List Int)) (z : Int) : Prop := ∃ r ∈ L, r.getD 0 0 ≤ z ∧ z ≤ r.getD 1 0
theorem inRow_of {L : List (List Int)} {z : Int} {i : Nat} (hi : i < L.length) (h1 : fld L i 0 ≤ z) (h2 : z ≤ fld L i 1) : InRow L z :=
  ⟨L[i], List.getElem_mem hi, by simpa [fld, List.getD, List.getElem?_eq_getElem hi] using h1, by simpa [fld, List.getD, List.getElem?_eq_getElem hi] using h2⟩
theorem inRow_at {L : List (List Int)} {z : Int} (h : InRow L z) : ∃ i, i < L.length ∧ fld L i 0 ≤ z ∧ z ≤ fld L i 1 := by
  obtain ⟨r, hr, h1, h2⟩ := h
  obtain ⟨i, hi, rfl⟩ := List.getElem_of_mem hr
  exact ⟨i, hi, by simpa [fld, List.getD, List.getElem?_eq_getElem hi] using h1, by simpa [fld, List.getD, List.getElem?_eq_getElem hi] using h2⟩
theorem scan_in {ks : List (List Int)} {f t z : Int} (hg : Good ks) (hft : f ≤ t) (k : Nat) (hk : k ≤ ks.length) :
    scF ks f t k ≤ scT ks f t k ∧ (scF ks f t k ≤ z → z ≤ scT ks f t k → (f ≤ z ∧ z ≤ t) ∨ InRow ks z) := by
  induction k with
  | zero => exact ⟨hft, fun h1 h2 => .inl ⟨h1, h2⟩⟩
  | succ k ih =>
    obtain ⟨a, b⟩ := ih (by omega)
    obtain ⟨e, f', g⟩ := hg k (by omega)
    by_cases h : fld ks k 1 + 1 < scF ks f t k ∨ scT ks f t k + 1 < fld ks k 0
    · obtain ⟨-, q, r⟩ := sc_apart h
      rw [q, r]
      exact ⟨a, b⟩
    · obtain ⟨-, q, r⟩ := sc_touch (ks := ks) (f := f) (t := t) (k := k) (by omega) (by omega)
      rw [q, r]
      refine ⟨by omega, fun h1 h2 => ?_⟩
      by_cases h3 : scF ks f t k ≤ z ∧ z ≤ scT ks f t k
      · exact b h3.1 h3.2
      · exact .inr (inRow_of (i := k) (by omega) (by omega) (by omega))
theorem scR_rows (ks : List (List Int)) (f t : Int) (k : Nat) : ∀ r ∈ scR ks f t k, ∃ i, i < k ∧ r = [fld ks i 0, fld ks i 1] := by
  induction k with
  | zero => intro r hr; cases hr
  | succ k ih =>
    by_cases h : fld ks k 1 + 1 < scF ks f t k ∨ scT ks f t k + 1 < fld ks k 0
    · obtain ⟨p, -, -⟩ := sc_apart h
      rw [p]
      intro r hr
      rcases List.mem_append.1 hr with h1 | h1
      · obtain ⟨i, hi, he⟩ := ih r h1
        exact ⟨i, by omega, he⟩
      · simp at h1
        exact ⟨k, by omega, h1⟩
    · obtain ⟨p, -, -⟩ := sc_touch (ks := ks) (f := f) (t := t) (k := k) (by omega) (by omega)
      rw [p]
      intro r hr
      obtain ⟨i, hi, he⟩ := ih r hr
      exact ⟨i, by omega, he⟩
theorem putR_in {ks : List (List Int)} {f t z : Int} (hg : Good ks) (hft : f ≤ t) (h : InRow (putR ks f t) z) : (f ≤ z ∧ z ≤ t) ∨ InRow ks z := by
  obtain ⟨r, hr, h1, h2⟩ := h
  have hrow : r ∈ scR ks f t ks.length → InRow ks z := fun hm => by
    obtain ⟨i, hi, rfl⟩ := scR_rows ks f t _ r hm
    exact inRow_of hi (by simpa using h1) (by simpa using h2)
  unfold putR insR at hr
  rcases List.mem_append.1 hr with h5 | h5
  · rcases List.mem_append.1 h5 with h6 | h6
    · exact .inr (hrow (List.mem_of_mem_take h6))
    · simp at h6
      subst h6
      exact (scan_in (z := z) hg hft _ (Nat.le_refl _)).2 (by simpa using h1) (by simpa using h2)
  · exact .inr (hrow (List.mem_of_mem_drop h5))
theorem joinT_in {ls : List (List Int)} {z : Int} (k : Nat) (hk : k ≤ ls.length) (h : InRow (joinT ls k) z) : InRow ls z := by
  induction k with
  | zero => obtain ⟨r, hr, -⟩ := h; cases hr
  | succ k ih =>
    unfold joinT at h
    split at h
    · rename_i hs
      have hs2 := spanB_iff.1 hs
      rcases putR_in (join_facts ls k).2.2 hs2.2.1 h with h1 | h1
      · exact inRow_of (i := k) (by omega) h1.1 h1.2
      · exact ih (by omega) h1
    · exact ih (by omega) h
theorem manL_rows {ks ls : List (List Int)} {o p : Int} {n : Nat} : ∀ r ∈ manL ks ls o p n, ∃ i, i < n ∧ isMan ks ls o p i = true ∧ r = [fld ls i 2, fld ls i 3] := by
  intro r hr
  unfold manL at hr
  obtain ⟨i, hi, rfl⟩ := List.mem_map.1 hr
  rw [List.mem_filter] at hi
  exact ⟨i, List.mem_range.1 hi.1, hi.2, rfl⟩
theorem covB_at {js : List (List Int)} {x y : Int} (h : covB js x y = true) : ∃ j, j < js.length ∧ insideB x y (fld js j 0) (fld js j 1) = true := by
  by_cases hx : ∃ j, j < js.length ∧ insideB x y (fld js j 0) (fld js j 1) = true
  · exact hx
  · rw [← cov_no (js := js) (x := x) (y := y) (fun i hi => by
      unfold outB
      cases hc : insideB x y (fld js i 0) (fld js i 1) with
      | false => rfl
      | true => exact absurd ⟨i, hi, hc⟩ hx)] at h
    cases h
theorem may_in {ks ls : List (List Int)} {o p x y : Int} (ho : o ≠ 0) (h : mayB ks ls o p x y = true) : spanB x y = true ∧ ∀ t, x ≤ t → t ≤ y → ∃ j, j < ls.length ∧ satB ks ls o p t j = true := by
  rw [← may_other ho] at h
  obtain ⟨j, hj, hi⟩ := covB_at h
  unfold insideB at hi
  simp only [Bool.and_eq_true, decide_eq_true_eq] at hi
  obtain ⟨⟨⟨h1, h2⟩, h3⟩, h4⟩ := hi
  refine ⟨h1, fun t ht1 ht2 => ?_⟩
  have h5 := joinT_in _ (Nat.le_refl _) (inRow_of (z := t) hj (by omega) (by omega))
  have h6 : InRow (manL ks ls o p ls.length) t := joinT_in _ (Nat.le_refl _) h5
  obtain ⟨r, hr, h7, h8⟩ := h6
  obtain ⟨i, hi, hm, rfl⟩ := manL_rows r hr
  refine ⟨i, hi, ?_⟩
  unfold isMan at hm
  simp only [Bool.and_eq_true] at hm
  unfold satB
  rw [hm.2, hm.1.1, hm.1.2]
  have h9 : fld ls i 2 ≤ t := by simpa using h7
  have h10 : t ≤ fld ls i 3 := by simpa using h8
  simp [h9, h10]
end Go.Proofs.Ytkdpfbodmfjkkaa
