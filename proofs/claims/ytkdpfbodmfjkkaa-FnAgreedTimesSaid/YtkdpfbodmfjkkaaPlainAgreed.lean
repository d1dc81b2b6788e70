/- The agreed span, in plain numbers: the first and the last time that enough spans have, and how the reference finds them among the spans' ends. Nothing here speaks of the program. -/
import Derived.Test.YtkdpfbodmfjkkaaPlain
namespace Go.Proofs.Ytkdpfbodmfjkkaa
open Go.RowKit

/-- The first supported time among 0 .. k - 1, or -1. -/
def firT (ks : List (List Int)) (l : Int) : Nat → Int
  | 0 => -1
  | k + 1 => if firT ks l k < 0 ∧ supB ks k l = true then (k : Int) else firT ks l k
/-- The last supported time among 0 .. k - 1, or -1. -/
def lasT (ks : List (List Int)) (l : Int) : Nat → Int
  | 0 => -1
  | k + 1 => if supB ks k l = true then (k : Int) else lasT ks l k
/-- What the program's variable s holds behind k times. -/
def curL (ks : List (List Int)) (l : Int) (k : Nat) : Int := if firT ks l k < 0 then 0 else firT ks l k
def curR (ks : List (List Int)) (l : Int) (k : Nat) : Int := if firT ks l k < 0 then 0 else lasT ks l k
def curB (ks : List (List Int)) (l : Int) (k : Nat) : Bool := !decide (firT ks l k < 0)
def agL (ks : List (List Int)) (l : Int) : Int := curL ks l 10001
def agR (ks : List (List Int)) (l : Int) : Int := curR ks l 10001
def agB (ks : List (List Int)) (l : Int) : Bool := curB ks l 10001
theorem firT_spec (ks : List (List Int)) (l : Int) (k : Nat) :
    (firT ks l k = -1 ∧ lasT ks l k = -1 ∧ ∀ i, i < k → supB ks (i : Int) l = false) ∨
    (∃ a b : Nat, firT ks l k = a ∧ lasT ks l k = b ∧ a ≤ b ∧ b < k ∧ supB ks (a : Int) l = true ∧ supB ks (b : Int) l = true ∧ (∀ i, i < a → supB ks (i : Int) l = false) ∧ ∀ i, b < i → i < k → supB ks (i : Int) l = false) := by
  induction k with
  | zero => exact .inl ⟨rfl, rfl, fun i hi => by omega⟩
  | succ k ih =>
    cases hs : supB ks (k : Int) l with
    | false =>
      have e1 : firT ks l (k + 1) = firT ks l k := by simp [firT, hs]
      have e2 : lasT ks l (k + 1) = lasT ks l k := by simp [lasT, hs]
      rw [e1, e2]
      rcases ih with ⟨h1, h2, h3⟩ | ⟨a, b, h1, h2, h3, h4, h5, h6, h7, h8⟩
      · refine .inl ⟨h1, h2, fun i hi => ?_⟩
        by_cases hik : i = k
        · rw [hik]; exact hs
        · exact h3 i (by omega)
      · refine .inr ⟨a, b, h1, h2, h3, by omega, h5, h6, h7, fun i hi hik => ?_⟩
        by_cases hik' : i = k
        · rw [hik']; exact hs
        · exact h8 i hi (by omega)
    | true =>
      have e2 : lasT ks l (k + 1) = k := by simp [lasT, hs]
      rcases ih with ⟨h1, h2, h3⟩ | ⟨a, b, h1, h2, h3, h4, h5, h6, h7, h8⟩
      · have e1 : firT ks l (k + 1) = k := by simp [firT, hs, h1]
        exact .inr ⟨k, k, e1, e2, Nat.le_refl _, by omega, hs, hs, h3, fun i hi hik => by omega⟩
      · have e1 : firT ks l (k + 1) = a := by
          have h9 : ¬ firT ks l k < 0 := by omega
          simp only [firT]
          rw [if_neg (fun hh => h9 hh.1)]
          exact h1
        exact .inr ⟨a, k, e1, e2, by omega, by omega, h5, hs, h7, fun i hi hik => by omega⟩
theorem inSp_iff {ks : List (List Int)} {t : Int} {k : Nat} : inSp ks t k = true ↔ 0 ≤ fld ks k 0 ∧ fld ks k 1 ≤ 10000 ∧ fld ks k 0 ≤ t ∧ t ≤ fld ks k 1 := by
  unfold inSp
  rw [Bool.and_eq_true, spanB_iff, inR_iff]
  omega
theorem cntTo_mono {ks : List (List Int)} {s t : Int} {n : Nat} (h : ∀ k, k < n → inSp ks s k = true → inSp ks t k = true) : cntTo ks s n ≤ cntTo ks t n := by
  induction n with
  | zero => exact Nat.le_refl _
  | succ n ih =>
    have h1 := ih (fun k hk => h k (by omega))
    have h2 := h n (by omega)
    show cntTo ks s n + _ ≤ cntTo ks t n + _
    cases hs : inSp ks s n with
    | false => simp; omega
    | true => rw [h2 hs]; simp; omega
theorem cntTo_zero {ks : List (List Int)} {t : Int} {n : Nat} (h : ∀ k, k < n → inSp ks t k = false) : cntTo ks t n = 0 := by
  induction n with
  | zero => rfl
  | succ n ih =>
    show cntTo ks t n + _ = 0
    rw [ih (fun k hk => h k (by omega)), h n (by omega)]; simp
theorem supB_iff {ks : List (List Int)} {t l : Int} : supB ks t l = true ↔ 0 ≤ l ∧ l ≤ (ks.length : Int) - 1 ∧ (ks.length : Int) - l ≤ (cntTo ks t ks.length : Nat) := by
  unfold supB
  rw [Bool.and_eq_true, inR_iff, decide_eq_true_iff]
  omega
/-- If a time is supported and the time before it is not, some valid span begins there; if the time behind it is not, some valid span ends there. -/
theorem sup_begins {ks : List (List Int)} {t l : Int} (h : supB ks t l = true) (h' : supB ks (t - 1) l = false) : ∃ k, k < ks.length ∧ inSp ks t k = true ∧ fld ks k 0 = t := by
  rcases Classical.em (∃ k, k < ks.length ∧ inSp ks t k = true ∧ fld ks k 0 = t) with h1 | h1
  · exact h1
  · exfalso
    have h2 : cntTo ks t ks.length ≤ cntTo ks (t - 1) ks.length := cntTo_mono fun k hk hin => by
      have hne : fld ks k 0 ≠ t := fun e => h1 ⟨k, hk, hin, e⟩
      rw [inSp_iff] at hin ⊢
      omega
    have h3 : supB ks (t - 1) l = true := by
      rw [supB_iff] at h ⊢
      omega
    rw [h3] at h'; cases h'
theorem sup_ends {ks : List (List Int)} {t l : Int} (h : supB ks t l = true) (h' : supB ks (t + 1) l = false) : ∃ k, k < ks.length ∧ inSp ks t k = true ∧ fld ks k 1 = t := by
  rcases Classical.em (∃ k, k < ks.length ∧ inSp ks t k = true ∧ fld ks k 1 = t) with h1 | h1
  · exact h1
  · exfalso
    have h2 : cntTo ks t ks.length ≤ cntTo ks (t + 1) ks.length := cntTo_mono fun k hk hin => by
      have hne : fld ks k 1 ≠ t := fun e => h1 ⟨k, hk, hin, e⟩
      rw [inSp_iff] at hin ⊢
      omega
    have h3 : supB ks (t + 1) l = true := by
      rw [supB_iff] at h ⊢
      omega
    rw [h3] at h'; cases h'
theorem sup_none {ks : List (List Int)} {t l : Int} (h : t < 0 ∨ 10000 < t) : supB ks t l = false := by
  cases hx : supB ks t l with
  | false => rfl
  | true =>
    exfalso
    have h0 : cntTo ks t ks.length = 0 := cntTo_zero fun k _ => by
      cases hy : inSp ks t k with
      | false => rfl
      | true => rw [inSp_iff] at hy; omega
    rw [supB_iff, h0] at hx
    omega
/-- What the reference has found among the first k spans: the least supported From and the greatest supported To of the valid ones (-1: none). -/
def sfT (ks : List (List Int)) (l : Int) : Nat → Int
  | 0 => -1
  | k + 1 => if spanB (fld ks k 0) (fld ks k 1) = true ∧ supB ks (fld ks k 0) l = true ∧ (sfT ks l k < 0 ∨ fld ks k 0 < sfT ks l k) then fld ks k 0 else sfT ks l k
def stT (ks : List (List Int)) (l : Int) : Nat → Int
  | 0 => -1
  | k + 1 => if spanB (fld ks k 0) (fld ks k 1) = true ∧ supB ks (fld ks k 1) l = true then mx (stT ks l k) (fld ks k 1) else stT ks l k
theorem sfT_spec (ks : List (List Int)) (l : Int) (k : Nat) :
    (sfT ks l k = -1 ∨ (0 ≤ sfT ks l k ∧ supB ks (sfT ks l k) l = true)) ∧ ∀ i, i < k → spanB (fld ks i 0) (fld ks i 1) = true → supB ks (fld ks i 0) l = true → 0 ≤ sfT ks l k ∧ sfT ks l k ≤ fld ks i 0 := by
  induction k with
  | zero => exact ⟨.inl rfl, fun i hi => by omega⟩
  | succ k ih =>
    obtain ⟨h1, h2⟩ := ih
    by_cases hc : spanB (fld ks k 0) (fld ks k 1) = true ∧ supB ks (fld ks k 0) l = true ∧ (sfT ks l k < 0 ∨ fld ks k 0 < sfT ks l k)
    · have e : sfT ks l (k + 1) = fld ks k 0 := by simp only [sfT]; rw [if_pos hc]
      rw [e]
      have h0 := (spanB_iff.1 hc.1).1
      refine ⟨.inr ⟨h0, hc.2.1⟩, fun i hi hsp hsu => ⟨h0, ?_⟩⟩
      by_cases hik : i = k
      · rw [hik]; exact Int.le_refl _
      · have := h2 i (by omega) hsp hsu
        omega
    · have e : sfT ks l (k + 1) = sfT ks l k := by simp only [sfT]; rw [if_neg hc]
      rw [e]
      refine ⟨h1, fun i hi hsp hsu => ?_⟩
      by_cases hik : i = k
      · subst hik
        have h3 : ¬ (sfT ks l i < 0 ∨ fld ks i 0 < sfT ks l i) := fun h => hc ⟨hsp, hsu, h⟩
        omega
      · exact h2 i (by omega) hsp hsu
theorem stT_spec (ks : List (List Int)) (l : Int) (k : Nat) :
    (stT ks l k = -1 ∨ (0 ≤ stT ks l k ∧ supB ks (stT ks l k) l = true)) ∧ ∀ i, i < k → spanB (fld ks i 0) (fld ks i 1) = true → supB ks (fld ks i 1) l = true → fld ks i 1 ≤ stT ks l k := by
  induction k with
  | zero => exact ⟨.inl rfl, fun i hi => by omega⟩
  | succ k ih =>
    obtain ⟨h1, h2⟩ := ih
    by_cases hc : spanB (fld ks k 0) (fld ks k 1) = true ∧ supB ks (fld ks k 1) l = true
    · have e : stT ks l (k + 1) = mx (stT ks l k) (fld ks k 1) := by simp only [stT]; rw [if_pos hc]
      have h0 := spanB_iff.1 hc.1
      rw [e]
      by_cases hm : stT ks l k < fld ks k 1
      · rw [mx_lt hm]
        refine ⟨.inr ⟨by omega, hc.2⟩, fun i hi hsp hsu => ?_⟩
        by_cases hik : i = k
        · rw [hik]; exact Int.le_refl _
        · have := h2 i (by omega) hsp hsu
          omega
      · rw [mx_ge (by omega)]
        refine ⟨h1, fun i hi hsp hsu => ?_⟩
        by_cases hik : i = k
        · rw [hik]; omega
        · exact h2 i (by omega) hsp hsu
    · have e : stT ks l (k + 1) = stT ks l k := by simp only [stT]; rw [if_neg hc]
      rw [e]
      refine ⟨h1, fun i hi hsp hsu => ?_⟩
      by_cases hik : i = k
      · exact absurd ⟨by rw [← hik]; exact hsp, by rw [← hik]; exact hsu⟩ hc
      · exact h2 i (by omega) hsp hsu
/-- The reference's answer is the program's. -/
theorem agreed_same (ks : List (List Int)) (l : Int) :
    (firT ks l 10001 = -1 ∧ sfT ks l ks.length = -1) ∨ (0 ≤ firT ks l 10001 ∧ sfT ks l ks.length = firT ks l 10001 ∧ stT ks l ks.length = lasT ks l 10001) := by
  obtain ⟨hs1, hs2⟩ := sfT_spec ks l ks.length
  obtain ⟨ht1, ht2⟩ := stT_spec ks l ks.length
  have hin : ∀ t : Int, supB ks t l = true → ∃ n : Nat, t = n ∧ n < 10001 := fun t ht => by
    by_cases h : t < 0 ∨ 10000 < t
    · rw [sup_none h] at ht; cases ht
    · exact ⟨t.toNat, by omega, by omega⟩
  rcases firT_spec ks l 10001 with ⟨h1, h2, h3⟩ | ⟨a, b, h1, h2, h3, h4, h5, h6, h7, h8⟩
  · refine .inl ⟨h1, ?_⟩
    rcases hs1 with h | ⟨h, hsu⟩
    · exact h
    · obtain ⟨n, hn, hl⟩ := hin _ hsu
      rw [hn, h3 n hl] at hsu; cases hsu
  · refine .inr ⟨by omega, ?_, ?_⟩
    · -- the first one
      have hb : supB ks ((a : Int) - 1) l = false := by
        by_cases ha : a = 0
        · exact sup_none (by omega)
        · have := h7 (a - 1) (by omega)
          rwa [show ((a - 1 : Nat) : Int) = (a : Int) - 1 by omega] at this
      obtain ⟨k, hk, hki, hke⟩ := sup_begins h5 hb
      have hsp : spanB (fld ks k 0) (fld ks k 1) = true := by rw [inSp_iff] at hki; rw [spanB_iff]; omega
      have h9 := hs2 k hk hsp (by rw [hke]; exact h5)
      rcases hs1 with h | ⟨h, hsu⟩
      · omega
      · obtain ⟨n, hn, hl⟩ := hin _ hsu
        rw [h1]
        by_cases hna : n < a
        · rw [hn, h7 n hna] at hsu; cases hsu
        · omega
    · have hb : supB ks ((b : Int) + 1) l = false := by
        by_cases hb : b = 10000
        · exact sup_none (by omega)
        · have := h8 (b + 1) (by omega) (by omega)
          rwa [show ((b + 1 : Nat) : Int) = (b : Int) + 1 by omega] at this
      obtain ⟨k, hk, hki, hke⟩ := sup_ends h6 hb
      have hsp : spanB (fld ks k 0) (fld ks k 1) = true := by rw [inSp_iff] at hki; rw [spanB_iff]; omega
      have h9 := ht2 k hk hsp (by rw [hke]; exact h6)
      rcases ht1 with h | ⟨h, hsu⟩
      · omega
      · obtain ⟨n, hn, hl⟩ := hin _ hsu
        rw [h2]
        by_cases hnb : b < n
        · rw [hn, h8 n hnb hl] at hsu; cases hsu
        · omega
end Go.Proofs.Ytkdpfbodmfjkkaa
