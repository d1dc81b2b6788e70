/- Plain functions: what the tests, digests and marks compute. Nothing here speaks of the program. -/
import Derived.Test.YtgplnokohchepaaBase
namespace Go.Proofs.Ytgplnokohchepaa
open Go.RowKit

def keyB (a0 a1 a2 a3 a4 : Int) : Bool := inR a0 1 99 && inR a1 0 99 && inR a2 0 99 && timeB a3 && inR a4 1 2147483646
theorem keyB_iff {a0 a1 a2 a3 a4 : Int} : keyB a0 a1 a2 a3 a4 = true ↔ (1 ≤ a0 ∧ a0 ≤ 99) ∧ (0 ≤ a1 ∧ a1 ≤ 99) ∧ (0 ≤ a2 ∧ a2 ≤ 99) ∧ (0 ≤ a3 ∧ a3 ≤ 10000) ∧ (1 ≤ a4 ∧ a4 ≤ 2147483646) := by
  simp [keyB, timeB, inR, and_assoc]
def signatureB (a0 a1 a2 a3 a4 a5 a6 a7 _a8 : Int) : Bool := inR a0 1 99 && inR a1 1 999 && inR a2 0 99 && inR a5 0 99 && inR a4 1 3 && inR a3 0 1000000000000 && inR a6 0 1000000000000 && inR a7 0 1000000000000
theorem signatureB_iff {a0 a1 a2 a3 a4 a5 a6 a7 a8 : Int} : signatureB a0 a1 a2 a3 a4 a5 a6 a7 a8 = true ↔ (1 ≤ a0 ∧ a0 ≤ 99) ∧ (1 ≤ a1 ∧ a1 ≤ 999) ∧ (0 ≤ a2 ∧ a2 ≤ 99) ∧ (0 ≤ a5 ∧ a5 ≤ 99) ∧ (1 ≤ a4 ∧ a4 ≤ 3) ∧ (0 ≤ a3 ∧ a3 ≤ 1000000000000) ∧ (0 ≤ a6 ∧ a6 ≤ 1000000000000) ∧ (0 ≤ a7 ∧ a7 ≤ 1000000000000) := by
  simp [signatureB, inR, and_assoc]
def mandateB (a0 a1 a2 a3 a4 _a5 : Int) : Bool := inR a0 1 99 && inR a1 0 99 && inR a4 1 99 && spanB a2 a3
theorem mandateB_iff {a0 a1 a2 a3 a4 a5 : Int} : mandateB a0 a1 a2 a3 a4 a5 = true ↔ (1 ≤ a0 ∧ a0 ≤ 99) ∧ (0 ≤ a1 ∧ a1 ≤ 99) ∧ (1 ≤ a4 ∧ a4 ≤ 99) ∧ 0 ≤ a2 ∧ a2 ≤ a3 ∧ a3 ≤ 10000 := by
  simp [mandateB, inR, spanB_iff, and_assoc]
def certB (a0 a1 a2 a3 a4 a5 _a6 : Int) : Bool := inR a0 1 999 && inR a1 1 99 && inR a5 1 99 && !(a1 == a5) && inR a2 0 99 && spanB a3 a4
theorem certB_iff {a0 a1 a2 a3 a4 a5 a6 : Int} : certB a0 a1 a2 a3 a4 a5 a6 = true ↔ (1 ≤ a0 ∧ a0 ≤ 999) ∧ (1 ≤ a1 ∧ a1 ≤ 99) ∧ (1 ≤ a5 ∧ a5 ≤ 99) ∧ a1 ≠ a5 ∧ (0 ≤ a2 ∧ a2 ≤ 99) ∧ 0 ≤ a3 ∧ a3 ≤ a4 ∧ a4 ≤ 10000 := by
  simp [certB, inR, spanB_iff, and_assoc]
def statusB (a0 a1 a2 a3 _a4 : Int) : Bool := inR a0 1 999 && timeB a1 && inR a2 (-1) (a1 + 1) && inR a3 1 99
theorem statusB_iff {a0 a1 a2 a3 a4 : Int} : statusB a0 a1 a2 a3 a4 = true ↔ (1 ≤ a0 ∧ a0 ≤ 999) ∧ (0 ≤ a1 ∧ a1 ≤ 10000) ∧ (-1 ≤ a2 ∧ a2 ≤ a1 + 1) ∧ (1 ≤ a3 ∧ a3 ≤ 99) := by
  simp [statusB, timeB, inR, and_assoc]
/- Digests. -/
def modP (v : Int) : Int := v % 2147483647
theorem modP_bd (v : Int) : 0 ≤ modP v ∧ modP v ≤ 2147483646 := by unfold modP; omega
def hstep (h v : Int) : Int := (h * 1000003 + modP v + 13) % 2147483647
def hashI (zs : List Int) : Int := zs.foldl hstep 11
theorem hstep_bd (h v : Int) : 0 ≤ hstep h v ∧ hstep h v ≤ 2147483646 := by unfold hstep; omega
theorem hashI_bd (zs : List Int) : 0 ≤ hashI zs ∧ hashI zs ≤ 2147483646 := by
  unfold hashI
  suffices h : ∀ (l : List Int) (a : Int), 0 ≤ a ∧ a ≤ 2147483646 → 0 ≤ l.foldl hstep a ∧ l.foldl hstep a ≤ 2147483646 from h zs 11 (by omega)
  intro l
  induction l with
  | nil => intro a h; exact h
  | cons x l ih => intro a _; exact ih _ (hstep_bd _ _)
theorem hashI_take {zs : List Int} {k : Nat} (h : k < zs.length) : hashI (zs.take (k + 1)) = (hashI (zs.take k) * 1000003 + modP (nth zs k) + 13) % 2147483647 := by
  unfold hashI
  rw [List.take_add_one, nth_get h, List.foldl_append]
  rfl
theorem hashI_full (zs : List Int) : hashI (zs.take zs.length) = hashI zs := by rw [List.take_length]
theorem tmod_bd (v : Int) : -2147483646 ≤ v.tmod 2147483647 ∧ v.tmod 2147483647 ≤ 2147483646 := by
  have h1 := Int.tmod_lt_of_pos v (show (0 : Int) < 2147483647 by decide)
  have h2 := Int.lt_tmod_of_pos v (show (0 : Int) < 2147483647 by decide)
  omega
theorem tmod_modP (v : Int) : (v.tmod 2147483647 + 2147483647) % 2147483647 = modP v := by
  unfold modP
  rw [Int.add_emod_right, Int.tmod_eq_emod]
  split <;> simp
def keyedHash (key : Int) (l : List Int) : Int := hashI (key :: l ++ [key])
def markW (method secret : Int) (l : List Int) : Int := keyedHash secret (method :: l)
def digestOf (id : Int) (l : List Int) : Int := hashI (7 :: id :: l)
/- Keys, authorities. -/
def ownerOf (num : Int) (ks : List (List Int)) : Int := if findI 0 num ks < 0 then -1 else fld ks (findI 0 num ks).toNat 1
def stampKey (id : Int) (ks : List (List Int)) : Int := if findI 0 id ks < 0 then 0 else fld ks (findI 0 id ks).toNat 1
theorem ownerOf_none {num : Int} {ks : List (List Int)} (h : findI 0 num ks = -1) : -1 = ownerOf num ks := by simp [ownerOf, h]
theorem ownerOf_some {num : Int} {ks : List (List Int)} {k : Nat} (h : findI 0 num ks = (k : Int)) : fld ks k 1 = ownerOf num ks := by
  unfold ownerOf; rw [h, if_neg (by omega), Int.toNat_natCast]
theorem stampKey_none {num : Int} {ks : List (List Int)} (h : findI 0 num ks = -1) : 0 = stampKey num ks := by simp [stampKey, h]
theorem stampKey_some {num : Int} {ks : List (List Int)} {k : Nat} (h : findI 0 num ks = (k : Int)) : fld ks k 1 = stampKey num ks := by
  unfold stampKey; rw [h, if_neg (by omega), Int.toNat_natCast]
/- Spans: in how many of the first k spans a time is. -/
def inSp (ks : List (List Int)) (t : Int) (k : Nat) : Bool := spanB (fld ks k 0) (fld ks k 1) && inR t (fld ks k 0) (fld ks k 1)
def cntTo (ks : List (List Int)) (t : Int) : Nat → Nat
  | 0 => 0
  | k + 1 => cntTo ks t k + if inSp ks t k then 1 else 0
theorem cntTo_succ (ks : List (List Int)) (t : Int) (k : Nat) : ((cntTo ks t (k + 1) : Nat) : Int) = (cntTo ks t k : Nat) + if inSp ks t k then 1 else 0 := by
  show ((cntTo ks t k + if inSp ks t k then 1 else 0 : Nat) : Int) = _
  split <;> simp
theorem cntTo_le (ks : List (List Int)) (t : Int) (k : Nat) : cntTo ks t k ≤ k := by
  induction k with
  | zero => exact Nat.le_refl _
  | succ k ih => show cntTo ks t k + _ ≤ _; split <;> omega
theorem inSp_of_not {ks : List (List Int)} {t : Int} {k : Nat} (h : spanB (fld ks k 0) (fld ks k 1) = false) : (if inSp ks t k then (1 : Int) else 0) = 0 := by simp [inSp, h]
theorem inSp_of {ks : List (List Int)} {t : Int} {k : Nat} (h : spanB (fld ks k 0) (fld ks k 1) = true) (h0 : fld ks k 0 ≤ t) (h1 : t ≤ fld ks k 1) : (if inSp ks t k then (1 : Int) else 0) = 1 := by simp [inSp, h, inR, h0, h1]
theorem inSp_of_out {ks : List (List Int)} {t : Int} {k : Nat} (h : ¬ (fld ks k 0 ≤ t ∧ t ≤ fld ks k 1)) : (if inSp ks t k then (1 : Int) else 0) = 0 := by
  have : inR t (fld ks k 0) (fld ks k 1) = false := by
    cases hx : inR t (fld ks k 0) (fld ks k 1) with
    | false => rfl
    | true => exact absurd (inR_iff.1 hx) h
  simp [inSp, this]
def supB (ks : List (List Int)) (t liars : Int) : Bool := inR liars 0 ((ks.length : Int) - 1) && decide ((ks.length : Int) - liars ≤ (cntTo ks t ks.length : Nat))
theorem supB_in {ks : List (List Int)} {t liars : Int} (h : 0 ≤ liars ∧ liars ≤ (ks.length : Int) - 1) : supB ks t liars = decide ((ks.length : Int) - liars ≤ (cntTo ks t ks.length : Nat)) := by simp [supB, inR, h.1, h.2]
theorem supB_out {ks : List (List Int)} {t liars : Int} (h : ¬ (0 ≤ liars ∧ liars ≤ (ks.length : Int) - 1)) : supB ks t liars = false := by
  have : inR liars 0 ((ks.length : Int) - 1) = false := by
    cases hx : inR liars 0 ((ks.length : Int) - 1) with
    | false => rfl
    | true => exact absurd (inR_iff.1 hx) h
  simp [supB, this]
end Go.Proofs.Ytgplnokohchepaa
