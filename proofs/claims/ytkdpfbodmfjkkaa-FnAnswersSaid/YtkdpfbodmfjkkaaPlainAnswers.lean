/- Answers whose numbers are within bounds: the first bad time lies behind the last good one, and where all answers agree, so do the first k of them. -/
import Derived.Test.YtkdpfbodmfjkkaaRows
import Derived.Test.YtkdpfbodmfjkkaaBase
import Derived.Test.YtkdpfbodmfjkkaaPlain
namespace Go.Proofs.Ytkdpfbodmfjkkaa
open Go.RowKit

/-- AsOf and Ended of the first k rows are within bounds. -/
def AnsOk (ks : List (List Int)) (n : Nat) : Prop := ∀ k, k < n → (0 ≤ fld ks k 1 ∧ fld ks k 1 ≤ 59) ∧ (-1 ≤ fld ks k 2 ∧ fld ks k 2 ≤ 60)
theorem mx_cases (a b : Int) : (mx a b = a ∧ b ≤ a) ∨ (mx a b = b ∧ a < b) := by unfold mx; split <;> omega
theorem ans_step (ks : List (List Int)) (s : Int) (k : Nat) :
    (lstTo ks s (k + 1) = lstTo ks s k ∧ mostTo ks s (k + 1) = mostTo ks s k ∧ (goodTo ks s (k + 1) = goodTo ks s k ∨ (fld ks k 2 < 0 ∧ goodTo ks s (k + 1) = mx (goodTo ks s k) (fld ks k 1)))) ∨
    (0 ≤ fld ks k 2 ∧ goodTo ks s (k + 1) = goodTo ks s k ∧ mostTo ks s (k + 1) = mx (mostTo ks s k) (fld ks k 2) ∧ ((lstTo ks s (k + 1) = fld ks k 2 ∧ (lstTo ks s k < 0 ∨ fld ks k 2 < lstTo ks s k)) ∨ (lstTo ks s (k + 1) = lstTo ks s k ∧ 0 ≤ lstTo ks s k ∧ lstTo ks s k ≤ fld ks k 2))) := by
  cases h : (fld ks k 0 == s)
  · obtain ⟨h1, h2, h3⟩ := ans_other h
    exact .inl ⟨h1, h2, .inl h3⟩
  · by_cases h2 : fld ks k 2 < 0
    · obtain ⟨h3, h4, h5⟩ := ans_good h h2
      exact .inl ⟨h3, h4, .inr ⟨h2, h5⟩⟩
    · obtain ⟨h3, h4⟩ := ans_bad h (by omega)
      refine .inr ⟨by omega, h4, h3, ?_⟩
      by_cases h5 : lstTo ks s k < 0 ∨ fld ks k 2 < lstTo ks s k
      · exact .inl ⟨ans_less h (by omega) h5, h5⟩
      · exact .inr ⟨ans_stay h5, by omega, by omega⟩
theorem ans_inv {ks : List (List Int)} (s : Int) {n : Nat} (ho : AnsOk ks n) : ∀ k, k ≤ n →
    -1 ≤ lstTo ks s k ∧ -1 ≤ mostTo ks s k ∧ mostTo ks s k ≤ 60 ∧ lstTo ks s k ≤ mostTo ks s k ∧ (lstTo ks s k < 0 → mostTo ks s k < 0) ∧ -1 ≤ goodTo ks s k ∧ goodTo ks s k ≤ 59 := by
  intro k
  induction k with
  | zero => intro _; simp [lstTo, mostTo, goodTo]
  | succ k ih =>
    intro hk
    obtain ⟨h1, h2, h3, h4, h5, h6, h7⟩ := ih (by omega)
    obtain ⟨⟨o1, o2⟩, o3, o4⟩ := ho k (by omega)
    have m1 := mx_cases (goodTo ks s k) (fld ks k 1)
    have m2 := mx_cases (mostTo ks s k) (fld ks k 2)
    rcases ans_step ks s k with ⟨e1, e2, e3 | ⟨e3, e4⟩⟩ | ⟨e0, e1, e2, ⟨e3, e4⟩ | ⟨e3, e4, e5⟩⟩ <;> refine ⟨?_, ?_, ?_, ?_, ?_, ?_, ?_⟩ <;> omega
theorem ans_mono {ks : List (List Int)} (s : Int) {n : Nat} : ∀ m k, k + m ≤ n →
    goodTo ks s k ≤ goodTo ks s (k + m) ∧ mostTo ks s k ≤ mostTo ks s (k + m) ∧ (0 ≤ lstTo ks s k → 0 ≤ lstTo ks s (k + m) ∧ lstTo ks s (k + m) ≤ lstTo ks s k) := by
  intro m
  induction m with
  | zero => intro k _; simp
  | succ m ih =>
    intro k hk
    obtain ⟨h1, h2, h3⟩ := ih k (by omega)
    have m1 := mx_cases (goodTo ks s (k + m)) (fld ks (k + m) 1)
    have m2 := mx_cases (mostTo ks s (k + m)) (fld ks (k + m) 2)
    rw [← Nat.add_assoc]
    rcases ans_step ks s (k + m) with ⟨e1, e2, e3 | ⟨e3, e4⟩⟩ | ⟨e0, e1, e2, ⟨e3, e4⟩ | ⟨e3, e4, e5⟩⟩ <;> refine ⟨?_, ?_, fun h0 => ?_⟩ <;> (try have h4 := h3 h0) <;> omega
/-- The last good and the first bad time of the first k answers. -/
def goodK (ks : List (List Int)) (s : Int) (k : Nat) : Int := if lstTo ks s k < 0 then goodTo ks s k else lstTo ks s k - 1
def badK (ks : List (List Int)) (s : Int) (k : Nat) : Int := if mostTo ks s k < 0 then 10001 else mx (mostTo ks s k) (goodTo ks s k + 1)
theorem badK_range {ks : List (List Int)} (s : Int) {n : Nat} (ho : AnsOk ks n) {k : Nat} (hk : k ≤ n) : goodK ks s k < badK ks s k ∧ 0 ≤ badK ks s k ∧ badK ks s k ≤ 10001 ∧ -1 ≤ goodK ks s k ∧ goodK ks s k ≤ 60 := by
  obtain ⟨h1, h2, h3, h4, h5, h6, h7⟩ := ans_inv s ho k hk
  have m := mx_cases (mostTo ks s k) (goodTo ks s k + 1)
  unfold goodK badK
  split <;> split <;> omega
theorem agreed_part {ks : List (List Int)} (s : Int) {n : Nat} (ho : AnsOk ks n) (ha : badK ks s n = 10001 ∨ badK ks s n = goodK ks s n + 1) {k : Nat} (hk : k ≤ n) :
    (badK ks s k = 10001 ∨ badK ks s k = goodK ks s k + 1) ∧ goodK ks s k ≤ goodK ks s n ∧ badK ks s n ≤ badK ks s k := by
  obtain ⟨h1, h2, h3, h4, h5, h6, h7⟩ := ans_inv s ho k hk
  obtain ⟨i1, i2, i3, i4, i5, i6, i7⟩ := ans_inv s ho n (Nat.le_refl _)
  obtain ⟨m1, m2, m3⟩ := ans_mono (ks := ks) s (n := n) (n - k) k (by omega)
  rw [show k + (n - k) = n by omega] at m1 m2 m3
  have c1 := mx_cases (mostTo ks s k) (goodTo ks s k + 1)
  have c2 := mx_cases (mostTo ks s n) (goodTo ks s n + 1)
  by_cases hl : lstTo ks s k < 0
  · have hm := h5 hl
    rw [show badK ks s k = 10001 from if_pos hm, show goodK ks s k = goodTo ks s k from if_pos hl]
    by_cases hn : lstTo ks s n < 0
    · rw [show badK ks s n = 10001 from if_pos (i5 hn), show goodK ks s n = goodTo ks s n from if_pos hn]
      omega
    · rw [show badK ks s n = mx (mostTo ks s n) (goodTo ks s n + 1) from if_neg (by omega), show goodK ks s n = lstTo ks s n - 1 from if_neg hn] at ha ⊢
      omega
  · have hn := m3 (by omega)
    rw [show badK ks s n = mx (mostTo ks s n) (goodTo ks s n + 1) from if_neg (by omega), show goodK ks s n = lstTo ks s n - 1 from if_neg (by omega)] at ha ⊢
    rw [show badK ks s k = mx (mostTo ks s k) (goodTo ks s k + 1) from if_neg (by omega), show goodK ks s k = lstTo ks s k - 1 from if_neg hl]
    omega
/- The first k rows of a list. -/
theorem fld_take (ks : List (List Int)) {k i : Nat} (j : Nat) (h : i < k) : fld (ks.take k) i j = fld ks i j := by
  unfold fld
  simp only [List.getD, List.getElem?_take, if_pos h]
theorem ans_take (ks : List (List Int)) (s : Int) (k : Nat) : ∀ i, i ≤ k → lstTo (ks.take k) s i = lstTo ks s i ∧ mostTo (ks.take k) s i = mostTo ks s i ∧ goodTo (ks.take k) s i = goodTo ks s i := by
  intro i
  induction i with
  | zero => intro _; exact ⟨rfl, rfl, rfl⟩
  | succ i ih =>
    intro h
    obtain ⟨h1, h2, h3⟩ := ih (by omega)
    simp only [lstTo, mostTo, goodTo, h1, h2, h3, fld_take ks _ (show i < k by omega)]
    trivial
theorem wrap_id {z : Int} (h1 : -9223372036854775808 ≤ z) (h2 : z ≤ 9223372036854775807) : wrap64 z = z := by
  unfold wrap64; omega
theorem goodUntil_is {ks : List (List Int)} {s : Int} (ho : AnsOk ks ks.length) {k : Nat} (hk : k ≤ ks.length) : goodUntil (ks.take k) s = goodK ks s k := by
  obtain ⟨h1, h2, h3, h4, h5, h6, h7⟩ := ans_inv s ho k hk
  obtain ⟨t1, t2, t3⟩ := ans_take ks s k k (Nat.le_refl _)
  have hl : (ks.take k).length = k := by rw [List.length_take]; omega
  unfold goodUntil goodK
  rw [hl, t1, t3, wrap_id (by omega) (by omega)]
theorem badFrom_is {ks : List (List Int)} {s : Int} (ho : AnsOk ks ks.length) {k : Nat} (hk : k ≤ ks.length) : badFrom (ks.take k) s = badK ks s k := by
  obtain ⟨h1, h2, h3, h4, h5, h6, h7⟩ := ans_inv s ho k hk
  obtain ⟨t1, t2, t3⟩ := ans_take ks s k k (Nat.le_refl _)
  have hl : (ks.take k).length = k := by rw [List.length_take]; omega
  unfold badFrom badK
  rw [hl, t2, t3, wrap_id (by omega) (by omega)]
theorem agreed_is {ks : List (List Int)} {s : Int} (ho : AnsOk ks ks.length) {k : Nat} (hk : k ≤ ks.length) : agreedB (ks.take k) s = true ↔ (badK ks s k = 10001 ∨ badK ks s k = goodK ks s k + 1) := by
  obtain ⟨h1, h2, h3, h4, h5⟩ := badK_range s ho hk
  unfold agreedB
  rw [goodUntil_is ho hk, badFrom_is ho hk, wrap_id (by omega) (by omega)]
  simp
/-- What the law asks. -/
theorem answers_law {ks : List (List Int)} {s : Int} (ho : AnsOk ks ks.length) : (goodUntil ks s < badFrom ks s ∧ 0 ≤ badFrom ks s ∧ badFrom ks s ≤ 10001) ∧
    (agreedB ks s = true → ∀ k, k ≤ ks.length → agreedB (ks.take k) s = true ∧ goodUntil (ks.take k) s ≤ goodUntil ks s ∧ badFrom ks s ≤ badFrom (ks.take k) s) := by
  have g0 := goodUntil_is (s := s) ho (Nat.le_refl ks.length)
  have b0 := badFrom_is (s := s) ho (Nat.le_refl ks.length)
  have a0 := agreed_is (s := s) ho (Nat.le_refl ks.length)
  rw [List.take_length] at g0 b0 a0
  obtain ⟨h1, h2, h3, h4, h5⟩ := badK_range s ho (Nat.le_refl ks.length)
  refine ⟨by omega, fun ha k hk => ?_⟩
  obtain ⟨p1, p2, p3⟩ := agreed_part s ho (a0.1 ha) hk
  rw [agreed_is ho hk, goodUntil_is ho hk, badFrom_is ho hk, g0, b0]
  exact ⟨p1, p2, p3⟩
end Go.Proofs.Ytkdpfbodmfjkkaa
