/- Joining spans, in plain lists: a span is put into a list of spans, those that touch it are taken in. Nothing here speaks of the program. -/
import Derived.Test.YtkdpfbodmfjkkaaPlain
namespace Go.Proofs.Ytkdpfbodmfjkkaa
open Go.RowKit

/-- Span k of the list lies apart from the span f .. t. -/
def apartB (ks : List (List Int)) (k : Nat) (f t : Int) : Bool := decide (fld ks k 1 + 1 < f) || decide (t + 1 < fld ks k 0)
/-- Behind k rows: the rows that stay apart, and the span with the others taken in. -/
def scan (ks : List (List Int)) (f t : Int) : Nat → List (List Int) × Int × Int
  | 0 => ([], f, t)
  | k + 1 => if apartB ks k (scan ks f t k).2.1 (scan ks f t k).2.2 then ((scan ks f t k).1 ++ [[fld ks k 0, fld ks k 1]], (scan ks f t k).2.1, (scan ks f t k).2.2)
      else ((scan ks f t k).1, min (scan ks f t k).2.1 (fld ks k 0), max (scan ks f t k).2.2 (fld ks k 1))
def scR (ks : List (List Int)) (f t : Int) (k : Nat) : List (List Int) := (scan ks f t k).1
def scF (ks : List (List Int)) (f t : Int) (k : Nat) : Int := (scan ks f t k).2.1
def scT (ks : List (List Int)) (f t : Int) (k : Nat) : Int := (scan ks f t k).2.2
theorem sc_zero (ks : List (List Int)) (f t : Int) : scR ks f t 0 = [] ∧ scF ks f t 0 = f ∧ scT ks f t 0 = t := ⟨rfl, rfl, rfl⟩
theorem sc_apart {ks : List (List Int)} {f t : Int} {k : Nat} (h : fld ks k 1 + 1 < scF ks f t k ∨ scT ks f t k + 1 < fld ks k 0) :
    scR ks f t (k + 1) = scR ks f t k ++ [[fld ks k 0, fld ks k 1]] ∧ scF ks f t (k + 1) = scF ks f t k ∧ scT ks f t (k + 1) = scT ks f t k := by
  have : apartB ks k (scan ks f t k).2.1 (scan ks f t k).2.2 = true := by
    unfold scF scT at h
    simp [apartB, h]
  simp only [scR, scF, scT, scan]
  rw [if_pos this]
  exact ⟨rfl, rfl, rfl⟩
theorem sc_touch {ks : List (List Int)} {f t : Int} {k : Nat} (h1 : scF ks f t k ≤ fld ks k 1 + 1) (h2 : fld ks k 0 ≤ scT ks f t k + 1) :
    scR ks f t (k + 1) = scR ks f t k ∧ scF ks f t (k + 1) = min (scF ks f t k) (fld ks k 0) ∧ scT ks f t (k + 1) = max (scT ks f t k) (fld ks k 1) := by
  have : apartB ks k (scan ks f t k).2.1 (scan ks f t k).2.2 = false := by
    unfold scF at h1; unfold scT at h2
    simp [apartB]
    omega
  simp only [scR, scF, scT, scan]
  rw [if_neg (by rw [this]; decide)]
  exact ⟨rfl, rfl, rfl⟩
theorem scR_len (ks : List (List Int)) (f t : Int) (k : Nat) : (scR ks f t k).length ≤ k := by
  induction k with
  | zero => exact Nat.le_refl _
  | succ k ih =>
    unfold scR at ih ⊢
    simp only [scan]
    split
    · simp; omega
    · show (scan ks f t k).1.length ≤ k + 1; omega
theorem scR_two (ks : List (List Int)) (f t : Int) (k : Nat) : ∀ r ∈ scR ks f t k, r.length = 2 := by
  induction k with
  | zero => intro r hr; cases hr
  | succ k ih =>
    unfold scR at ih ⊢
    simp only [scan]
    split
    · intro r hr
      rcases List.mem_append.1 hr with h | h
      · exact ih r h
      · simp at h; subst h; rfl
    · exact ih
/-- All rows are spans of times. -/
def Good (ks : List (List Int)) : Prop := ∀ k, k < ks.length → 0 ≤ fld ks k 0 ∧ fld ks k 0 ≤ fld ks k 1 ∧ fld ks k 1 ≤ 10000
theorem fld_snoc_lt {ks : List (List Int)} {r : List Int} {k : Nat} (h : k < ks.length) (j : Nat) : fld (ks ++ [r]) k j = fld ks k j := by
  simp [fld, List.getD, List.getElem?_append_left h]
theorem fld_snoc_eq (ks : List (List Int)) (r : List Int) (j : Nat) : fld (ks ++ [r]) ks.length j = r.getD j 0 := by
  simp [fld, List.getD]
theorem Good.snoc {ks : List (List Int)} {x y : Int} (h : Good ks) (h1 : 0 ≤ x) (h2 : x ≤ y) (h3 : y ≤ 10000) : Good (ks ++ [[x, y]]) := fun k hk => by
  by_cases hk' : k < ks.length
  · rw [fld_snoc_lt hk', fld_snoc_lt hk']; exact h k hk'
  · have : k = ks.length := by simp at hk; omega
    subst this
    rw [fld_snoc_eq, fld_snoc_eq]
    exact ⟨h1, h2, h3⟩
theorem scan_good {ks : List (List Int)} {f t : Int} (hg : Good ks) (h1 : 0 ≤ f) (h2 : f ≤ t) (h3 : t ≤ 10000) (k : Nat) (hk : k ≤ ks.length) :
    Good (scR ks f t k) ∧ 0 ≤ scF ks f t k ∧ scF ks f t k ≤ scT ks f t k ∧ scT ks f t k ≤ 10000 := by
  induction k with
  | zero => exact ⟨fun k hk => by simp [scR, scan] at hk, h1, h2, h3⟩
  | succ k ih =>
    obtain ⟨a, b, c, d⟩ := ih (by omega)
    obtain ⟨e, f', g⟩ := hg k (by omega)
    by_cases h : fld ks k 1 + 1 < scF ks f t k ∨ scT ks f t k + 1 < fld ks k 0
    · obtain ⟨p, q, r⟩ := sc_apart h
      rw [p, q, r]
      exact ⟨a.snoc e f' g, b, c, d⟩
    · obtain ⟨p, q, r⟩ := sc_touch (ks := ks) (f := f) (t := t) (k := k) (by omega) (by omega)
      rw [p, q, r]
      exact ⟨a, by omega, by omega, by omega⟩
/-- How many rows at the head begin before f. -/
def headN (ns : List (List Int)) (f : Int) : Nat → Nat → Nat
  | 0, k => k
  | m + 1, k => if k < ns.length ∧ fld ns k 0 < f then headN ns f m (k + 1) else k
def HD (ns : List (List Int)) (f : Int) (k : Nat) : Prop := ∀ i, i < k → fld ns i 0 < f
def headK (ns : List (List Int)) (f : Int) : Nat := headN ns f ns.length 0
theorem headN_at {ns : List (List Int)} {f : Int} (m : Nat) : ∀ (k j : Nat), k ≤ j → j ≤ k + m → (∀ i, k ≤ i → i < j → i < ns.length ∧ fld ns i 0 < f) → ¬ (j < ns.length ∧ fld ns j 0 < f) → headN ns f m k = j := by
  induction m with
  | zero => intro k j h1 h2 _ _; unfold headN; omega
  | succ m ih =>
    intro k j h1 h2 h3 h4
    unfold headN
    by_cases hk : k = j
    · subst hk; rw [if_neg h4]
    · rw [if_pos (h3 k (Nat.le_refl _) (by omega))]
      exact ih (k + 1) j (by omega) (by omega) (fun i hi1 hi2 => h3 i (by omega) hi2) h4
theorem headK_at {ns : List (List Int)} {f : Int} {j : Nat} (hj : j ≤ ns.length) (h : HD ns f j) (h4 : ¬ (j < ns.length ∧ fld ns j 0 < f)) : headK ns f = j :=
  headN_at ns.length 0 j (Nat.zero_le _) (by omega) (fun i _ hi => ⟨by omega, h i hi⟩) h4
theorem HD_zero (ns : List (List Int)) (f : Int) : HD ns f 0 := fun _ h => absurd h (by omega)
theorem HD_succ {ns : List (List Int)} {f : Int} {k : Nat} (h : HD ns f k) (e : fld ns k 0 < f) : HD ns f (k + 1) := fun i hi => by
  by_cases hh : i = k
  · rw [hh]; exact e
  · exact h i (by omega)
def insR (ns : List (List Int)) (f t : Int) : List (List Int) := ns.take (headK ns f) ++ [[f, t]] ++ ns.drop (headK ns f)
theorem insR_two {ns : List (List Int)} (h : ∀ r ∈ ns, r.length = 2) (f t : Int) : ∀ r ∈ insR ns f t, r.length = 2 := by
  intro r hr
  unfold insR at hr
  rcases List.mem_append.1 hr with h1 | h1
  · rcases List.mem_append.1 h1 with h2 | h2
    · exact h r (List.mem_of_mem_take h2)
    · simp at h2; subst h2; rfl
  · exact h r (List.mem_of_mem_drop h1)
theorem insR_len (ns : List (List Int)) (f t : Int) : (insR ns f t).length = ns.length + 1 := by
  unfold insR
  simp
  omega
/-- A property of rows that the list and the new row have. -/
theorem good_iff {ks : List (List Int)} (_h2 : ∀ r ∈ ks, r.length = 2) : Good ks ↔ ∀ r ∈ ks, 0 ≤ r.getD 0 0 ∧ r.getD 0 0 ≤ r.getD 1 0 ∧ r.getD 1 0 ≤ 10000 := by
  constructor
  · intro h r hr
    obtain ⟨i, hi, rfl⟩ := List.getElem_of_mem hr
    have := h i hi
    simpa [fld, List.getD, List.getElem?_eq_getElem hi] using this
  · intro h k hk
    have := h ks[k] (List.getElem_mem hk)
    simpa [fld, List.getD, List.getElem?_eq_getElem hk] using this
theorem insR_good {ns : List (List Int)} {f t : Int} (h2 : ∀ r ∈ ns, r.length = 2) (hg : Good ns) (h1 : 0 ≤ f) (h3 : f ≤ t) (h4 : t ≤ 10000) : Good (insR ns f t) := by
  rw [good_iff (insR_two h2 f t)]
  rw [good_iff h2] at hg
  intro r hr
  unfold insR at hr
  rcases List.mem_append.1 hr with h5 | h5
  · rcases List.mem_append.1 h5 with h6 | h6
    · exact hg r (List.mem_of_mem_take h6)
    · simp at h6; subst h6; exact ⟨h1, h3, h4⟩
  · exact hg r (List.mem_of_mem_drop h5)
def putR (ks : List (List Int)) (f t : Int) : List (List Int) := insR (scR ks f t ks.length) (scF ks f t ks.length) (scT ks f t ks.length)
theorem putR_two (ks : List (List Int)) (f t : Int) : ∀ r ∈ putR ks f t, r.length = 2 := insR_two (scR_two ks f t _) _ _
theorem putR_len (ks : List (List Int)) (f t : Int) : (putR ks f t).length ≤ ks.length + 1 := by
  have := scR_len ks f t ks.length
  unfold putR
  rw [insR_len]; omega
theorem putR_good {ks : List (List Int)} {f t : Int} (hg : Good ks) (h1 : 0 ≤ f) (h2 : f ≤ t) (h3 : t ≤ 10000) : Good (putR ks f t) := by
  obtain ⟨a, b, c, d⟩ := scan_good hg h1 h2 h3 ks.length (Nat.le_refl _)
  exact insR_good (scR_two ks f t _) a b c d
/-- The first k spans joined. -/
def joinT (ls : List (List Int)) : Nat → List (List Int)
  | 0 => []
  | k + 1 => if spanB (fld ls k 0) (fld ls k 1) then putR (joinT ls k) (fld ls k 0) (fld ls k 1) else joinT ls k
theorem join_yes {ls : List (List Int)} {k : Nat} (h : spanB (fld ls k 0) (fld ls k 1) = true) : joinT ls (k + 1) = putR (joinT ls k) (fld ls k 0) (fld ls k 1) := by simp only [joinT]; rw [if_pos h]
theorem join_no {ls : List (List Int)} {k : Nat} (h : spanB (fld ls k 0) (fld ls k 1) = false) : joinT ls (k + 1) = joinT ls k := by simp only [joinT]; rw [if_neg (by rw [h]; decide)]
theorem join_facts (ls : List (List Int)) (k : Nat) : (∀ r ∈ joinT ls k, r.length = 2) ∧ (joinT ls k).length ≤ k ∧ Good (joinT ls k) := by
  induction k with
  | zero => exact ⟨fun r hr => (by cases hr), Nat.le_refl _, fun k hk => by simp [joinT] at hk⟩
  | succ k ih =>
    obtain ⟨a, b, c⟩ := ih
    cases h : spanB (fld ls k 0) (fld ls k 1) with
    | false => rw [join_no h]; exact ⟨a, by omega, c⟩
    | true =>
      rw [join_yes h]
      obtain ⟨x, y, z⟩ := spanB_iff.1 h
      exact ⟨putR_two _ _ _, by have := putR_len (joinT ls k) (fld ls k 0) (fld ls k 1); omega, putR_good c x y z⟩
end Go.Proofs.Ytkdpfbodmfjkkaa
