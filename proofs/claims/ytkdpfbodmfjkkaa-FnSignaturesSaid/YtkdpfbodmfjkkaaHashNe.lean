/- Digests and marks of lists that differ at one place are unequal. Condition: the numbers there differ by the modulus. -/
import Derived.Test.YtkdpfbodmfjkkaaBase
import Derived.Test.YtkdpfbodmfjkkaaPlain
namespace Go.Proofs.Ytkdpfbodmfjkkaa
open Go.RowKit

theorem dvd_modP0 {n : Nat} (hd : 2147483647 ∣ 1000003 * n) (hb : n < 2147483647) : n = 0 := by
  have h4 : 2147483647 ∣ n := Nat.Coprime.dvd_of_dvd_mul_left (k := 2147483647) (m := 1000003) (by unfold Nat.Coprime; decide +kernel) hd
  exact Nat.eq_zero_of_dvd_of_lt h4 hb
theorem dvd_modP {x : Int} (hd : (2147483647 : Int) ∣ 1000003 * x) (h1 : -2147483647 < x) (h2 : x < 2147483647) : x = 0 := by
  obtain ⟨n, rfl | rfl⟩ := x.eq_nat_or_neg
  · have h3 : ((2147483647 : Nat) : Int) ∣ ((1000003 * n : Nat) : Int) := by simpa using hd
    clear hd
    have := dvd_modP0 (Int.natCast_dvd_natCast.1 h3) (by clear h3; omega)
    rw [this]; rfl
  · have h3 : ((2147483647 : Nat) : Int) ∣ ((1000003 * n : Nat) : Int) := by rw [Int.mul_neg, Int.dvd_neg] at hd; simpa using hd
    clear hd
    have := dvd_modP0 (Int.natCast_dvd_natCast.1 h3) (by clear h3; omega)
    rw [this]; rfl
theorem dvd_modP2 {a b : Int} (e : a % 2147483647 = b % 2147483647) : (2147483647 : Int) ∣ a - b := Int.dvd_of_emod_eq_zero (Int.emod_eq_emod_iff_emod_sub_eq_zero.1 e)
theorem hstep_left {h k v : Int} (h1 : 0 ≤ h ∧ h ≤ 2147483646) (h2 : 0 ≤ k ∧ k ≤ 2147483646) (e : hstep h v = hstep k v) : h = k := by
  unfold hstep at e
  have h3 := dvd_modP2 e
  rw [show h * 1000003 + modP v + 13 - (k * 1000003 + modP v + 13) = 1000003 * (h - k) by clear h3 e; omega] at h3
  have h4 := dvd_modP h3 (by clear h3 e; omega) (by clear h3 e; omega)
  clear h3 e
  omega
theorem hstep_right {h x y : Int} (e : hstep h x = hstep h y) : modP x = modP y := by
  unfold hstep at e
  have h1 := modP_bd x
  have h2 := modP_bd y
  omega
theorem fold_left {b : List Int} : ∀ {h k : Int}, 0 ≤ h ∧ h ≤ 2147483646 → 0 ≤ k ∧ k ≤ 2147483646 → b.foldl hstep h = b.foldl hstep k → h = k := by
  induction b with
  | nil => intro h k _ _ e; exact e
  | cons v b ih => intro h k h1 h2 e; exact hstep_left h1 h2 (ih (hstep_bd _ _) (hstep_bd _ _) e)
theorem hash_one {a b : List Int} {x y : Int} (e : hashI (a ++ x :: b) = hashI (a ++ y :: b)) : modP x = modP y := by
  unfold hashI at e
  rw [List.foldl_append, List.foldl_append, List.foldl_cons, List.foldl_cons] at e
  exact hstep_right (fold_left (hstep_bd _ _) (hstep_bd _ _) e)
theorem mark_one {m s : Int} {a b : List Int} {x y : Int} (e : markW m s (a ++ x :: b) = markW m s (a ++ y :: b)) : modP x = modP y := by
  unfold markW keyedHash at e
  have h1 : ∀ z : Int, s :: m :: (a ++ z :: b) ++ [s] = (s :: m :: a) ++ z :: (b ++ [s]) := fun z => by simp
  rw [h1, h1] at e
  exact hash_one e
theorem mark_ne {m s : Int} {a b : List Int} {x y : Int} (h : modP x ≠ modP y) : markW m s (a ++ x :: b) ≠ markW m s (a ++ y :: b) := fun e => h (mark_one e)
theorem modP_up' (x : Int) : modP (x + 1) ≠ modP x := by
  unfold modP; omega
/-- One more, as the machine reckons it, is another number to the digest. -/
theorem modP_up {x : Int} (h : -9223372036854775808 ≤ x) (h2 : x ≤ 9223372036854775807) : modP (wrap64 (x + 1)) ≠ modP x := by
  by_cases hx : x = 9223372036854775807
  · subst hx; unfold modP wrap64; decide
  · rw [show wrap64 (x + 1) = x + 1 by unfold wrap64; omega]
    exact modP_up' x
end Go.Proofs.Ytkdpfbodmfjkkaa
