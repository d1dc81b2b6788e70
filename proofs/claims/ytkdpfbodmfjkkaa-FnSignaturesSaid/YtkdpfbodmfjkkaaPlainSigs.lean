/- What the law FnSignatures asks of a signature that was made, of the plain functions alone. Condition: the signature is a good one and its key is there. -/
import Derived.Test.YtkdpfbodmfjkkaaBase
import Derived.Test.YtkdpfbodmfjkkaaPlain
import Derived.Test.YtkdpfbodmfjkkaaFindKey
import Derived.Test.YtkdpfbodmfjkkaaHashNe
import Derived.Test.YtkdpfbodmfjkkaaDigest
import Derived.Test.YtkdpfbodmfjkkaaCheckSignature
import Derived.Test.YtkdpfbodmfjkkaaStampsDigest
namespace Go.Proofs.Ytkdpfbodmfjkkaa
open Go.RowKit

/-- Commit % 3 + 1. -/
def nextC (a4 : Int) : Int := a4 % 3 + 1
theorem nextC_ne {a4 : Int} (h1 : 1 ≤ a4) (h2 : a4 ≤ 3) : modP (nextC a4) ≠ modP a4 := by
  have h : a4 = 1 ∨ a4 = 2 ∨ a4 = 3 := by omega
  rcases h with rfl | rfl | rfl <;> decide
theorem sig_yes {ks : List (List Int)} {a0 a1 a2 a3 a4 a5 a6 a7 m : Int} {k : Nat} (hx : signatureB a0 a1 a2 a3 a4 a5 a6 a7 m = true) (hf : findI 0 a0 ks = (k : Int)) (hm : m = markW (fld ks k 2) (fld ks k 4) [104, a0, a1, a2, a3, a4, a5, a6, a7]) : checkSignatureB ks a0 a1 a2 a3 a4 a5 a6 a7 m = true := by
  have h : (markW (fld ks k 2) (fld ks k 4) [104, a0, a1, a2, a3, a4, a5, a6, a7] == m) = true := by rw [beq_iff_eq, hm]
  rw [checkMarkB_some hf] at h
  unfold checkSignatureB
  rw [hx, h]
  rfl
theorem sig_commit {ks : List (List Int)} {a0 a1 a2 a3 a4 a5 a6 a7 m c : Int} {k : Nat} (hc : modP c ≠ modP a4) (hf : findI 0 a0 ks = (k : Int)) (hm : m = markW (fld ks k 2) (fld ks k 4) [104, a0, a1, a2, a3, a4, a5, a6, a7]) : checkSignatureB ks a0 a1 a2 a3 c a5 a6 a7 m = false := by
  have h : (markW (fld ks k 2) (fld ks k 4) [104, a0, a1, a2, a3, c, a5, a6, a7] == m) = false := by
    rw [beq_eq_false_iff_ne, hm]
    exact mark_ne (a := [104, a0, a1, a2, a3]) (b := [a5, a6, a7]) hc
  rw [checkMarkB_some hf] at h
  unfold checkSignatureB
  rw [h, Bool.and_false]
theorem sig_digest {ks : List (List Int)} {a0 a1 a2 a3 a4 a5 a6 a7 m : Int} {k : Nat} (hf : findI 0 a0 ks = (k : Int)) (hm : m = markW (fld ks k 2) (fld ks k 4) [104, a0, a1, a2, a3, a4, a5, a6, a7]) : checkSignatureB ks a0 a1 a2 (a3 + 1) a4 a5 a6 a7 m = false := by
  have h : (markW (fld ks k 2) (fld ks k 4) [104, a0, a1, a2, a3 + 1, a4, a5, a6, a7] == m) = false := by
    rw [beq_eq_false_iff_ne, hm]
    exact mark_ne (a := [104, a0, a1, a2]) (b := [a4, a5, a6, a7]) (modP_up' a3)
  rw [checkMarkB_some hf] at h
  unfold checkSignatureB
  rw [h, Bool.and_false]
theorem dig_ne {a0 a1 a2 a3 a4 a5 a6 a7 m c : Int} (hc : modP c ≠ modP a4) : digestI 1 ([104, a0, a1, a2, a3, a4, a5, a6, a7] ++ [m]) ≠ digestI 1 ([104, a0, a1, a2, a3, c, a5, a6, a7] ++ [m]) := by
  intro e
  unfold digestI at e
  exact hc (hash_one (a := [7, 1, 104, a0, a1, a2, a3]) (b := [a5, a6, a7, m]) e).symm
theorem stamps_zero {m : Int} {ls : List (List Int)} : (stampsI m ls == 0) = ((ls.length : Int) == 0) := by
  unfold stampsI
  by_cases h : ls.length = 0
  · rw [if_pos h, h]; rfl
  · rw [if_neg h]
    have h1 : ((ls.length : Int) == 0) = false := by rw [beq_eq_false_iff_ne]; omega
    rw [h1, beq_eq_false_iff_ne]
    unfold mx
    split <;> omega
end Go.Proofs.Ytkdpfbodmfjkkaa
