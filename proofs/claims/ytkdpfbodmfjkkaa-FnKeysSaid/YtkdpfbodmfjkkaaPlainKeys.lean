/- Of valid keys: the owner of a key's number is the key's owner. Condition: the numbers rise. -/
import Derived.Test.YtkdpfbodmfjkkaaBase
import Derived.Test.YtkdpfbodmfjkkaaPlain
import Derived.Test.YtkdpfbodmfjkkaaKeysOf
namespace Go.Proofs.Ytkdpfbodmfjkkaa
open Go.RowKit

theorem areB_all {good : Nat → Bool} {n mx : Nat} (h : areB good n mx = true) {k : Nat} (hk : k < n) : good k = true := by
  unfold areB at h
  rw [Bool.and_eq_true, List.all_eq_true] at h
  exact h.1 k (List.mem_range.2 hk)
theorem keys_rise {ks : List (List Int)} {mx : Nat} (h : areB (goodKey ks) ks.length mx = true) (j : Nat) : ∀ k, j < k → k < ks.length → fld ks j 0 < fld ks k 0 := by
  intro k
  induction k with
  | zero => intro h; omega
  | succ k ih =>
    intro h1 h2
    have hg := areB_all h h2
    unfold goodKey at hg
    rw [Bool.and_eq_true] at hg
    have hr : fld ks k 0 < fld ks (k + 1) 0 := by
      have := hg.2
      unfold risesB at this
      simpa using this
    rcases Nat.lt_succ_iff_lt_or_eq.1 h1 with h3 | rfl
    · have := ih h3 (by omega)
      omega
    · exact hr
theorem keys_find {ks : List (List Int)} {mx : Nat} (h : areB (goodKey ks) ks.length mx = true) {i : Nat} (hi : i < ks.length) : findI 0 (fld ks i 0) ks = i :=
  findI_hit (fun j hj => by have := keys_rise h j i hj hi; omega) hi (by simp)
theorem keysI_at {ks : List (List Int)} {o : Int} {n j : Nat} (h : j < (keysI ks o n).length) : ∃ i, i < n ∧ fld ks i 1 = o ∧ nth (keysI ks o n) j = fld ks i 0 := by
  have hm : nth (keysI ks o n) j ∈ keysI ks o n := by
    rw [nth, List.getD, List.getElem?_eq_getElem h]
    exact List.getElem_mem h
  unfold keysI at hm
  obtain ⟨i, hi, he⟩ := List.mem_map.1 hm
  rw [List.mem_filter] at hi
  exact ⟨i, List.mem_range.1 hi.1, by simpa using hi.2, he.symm⟩
theorem keys_owner {ks : List (List Int)} {o : Int} {mx j : Nat} (h : areB (goodKey ks) ks.length mx = true) (hj : j < (keysI ks o ks.length).length) : ownerOf (nth (keysI ks o ks.length) j) ks = o := by
  obtain ⟨i, hi, h1, h2⟩ := keysI_at hj
  rw [h2, ← ownerOf_some (keys_find h hi), h1]
end Go.Proofs.Ytkdpfbodmfjkkaa
