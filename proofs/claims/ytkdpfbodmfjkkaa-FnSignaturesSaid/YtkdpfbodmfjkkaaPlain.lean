/- Plain functions: what the tests, digests and marks compute. Nothing here speaks of the program. -/
import Derived.Test.YtkdpfbodmfjkkaaBase
namespace Go.Proofs.Ytkdpfbodmfjkkaa
open Go.RowKit

def keyB (a0 a1 a2 a3 a4 : Int) : Bool := inR a0 1 99 && inR a1 0 99 && inR a2 0 99 && timeB a3 && inR a4 1 2147483646
theorem keyB_iff {a0 a1 a2 a3 a4 : Int} : keyB a0 a1 a2 a3 a4 = true ↔ (1 ≤ a0 ∧ a0 ≤ 99) ∧ (0 ≤ a1 ∧ a1 ≤ 99) ∧ (0 ≤ a2 ∧ a2 ≤ 99) ∧ (0 ≤ a3 ∧ a3 ≤ 10000) ∧ (1 ≤ a4 ∧ a4 ≤ 2147483646) := by
  simp [keyB, timeB, inR, and_assoc]
def signatureB (a0 a1 a2 a3 a4 a5 a6 a7 _a8 : Int) : Bool := inR a0 1 99 && inR a1 1 999 && inR a2 0 99 && inR a5 0 99 && inR a4 1 3 && inR a3 0 1000000000000 && inR a6 0 1000000000000 && inR a7 0 1000000000000
theorem signatureB_iff {a0 a1 a2 a3 a4 a5 a6 a7 a8 : Int} : signatureB a0 a1 a2 a3 a4 a5 a6 a7 a8 = true ↔ (1 ≤ a0 ∧ a0 ≤ 99) ∧ (1 ≤ a1 ∧ a1 ≤ 999) ∧ (0 ≤ a2 ∧ a2 ≤ 99) ∧ (0 ≤ a5 ∧ a5 ≤ 99) ∧ (1 ≤ a4 ∧ a4 ≤ 3) ∧ (0 ≤ a3 ∧ a3 ≤ 1000000000000) ∧ (0 ≤ a6 ∧ a6 ≤ 1000000000000) ∧ (0 ≤ a7 ∧ a7 ≤ 1000000000000) := by
  simp [signatureB, inR, and_assoc]
def mandateB (a0 a1 a2 a3 a4 _a5 : Int) : Bool := inR a0 1 99 && inR a1 0 99 && inR a4 1 99 && spanB a2 a3
theorem mandateB_iff {a0 a1 a2 a3 a4 a5 : Int} : mandateB a0 a1 a2 a3 a4 a5 = true ↔ (1 ≤ a0 ∧ a0 ≤ 99) ∧ (0 ≤ a1 ∧ a1 ≤ 99) ∧ (1 ≤ a4 ∧ a4 ≤ 99) ∧ 0 ≤ a2 ∧ a2 ≤ a3 ∧ a3 ≤ 10000 := by
  simp [mandateB, inR, spanB_iff, and_assoc]
def certB (a0 a1 a2 a3 a4 a5 _a6 : Int) : Bool := inR a0 1 999 && inR a1 1 99 && inR a5 1 99 && !(a1 == a5) && inR a2 0 99 && spanB a3 a4
theorem certB_iff {a0 a1 a2 a3 a4 a5 a6 : Int} : certB a0 a1 a2 a3 a4 a5 a6 = true ↔ (1 ≤ a0 ∧ a0 ≤ 999) ∧ (1 ≤ a1 ∧ a1 ≤ 99) ∧ (1 ≤ a5 ∧ a5 ≤ 99) ∧ a1 ≠ a5 ∧ (0 ≤ a2 ∧ a2 ≤ 99) ∧ 0 ≤ a3 ∧ a3 ≤ a4 ∧ a4 ≤ 10000 := by
  simp [certB, inR, spanB_iff, and_assoc]
def statusB (a0 a1 a2 a3 _a4 : Int) : Bool := inR a0 1 999 && timeB a1 && inR a2 (-1) (a1 + 1) && inR a3 1 99
theorem statusB_iff {a0 a1 a2 a3 a4 : Int} : statusB a0 a1 a2 a3 a4 = true ↔ (1 ≤ a0 ∧ a0 ≤ 999) ∧ (0 ≤ a1 ∧ a1 ≤ 10000) ∧ (-1 ≤ a2 ∧ a2 ≤ a1 + 1) ∧ (1 ≤ a3 ∧ a3 ≤ 99) := by
  simp [statusB, timeB, inR, and_assoc]
/- Digests. -/
def modP (v : Int) : Int := v % 2147483647
theorem modP_bd (v : Int) : 0 ≤ modP v ∧ modP v ≤ 2147483646 := by unfold modP; omega
def hstep (h v : Int) : Int := (h * 1000003 + modP v + 13) % 2147483647
def hashI (zs : List Int) : Int := zs.foldl hstep 11
theorem hstep_bd (h v : Int) : 0 ≤ hstep h v ∧ hstep h v ≤ 2147483646 := by unfold hstep; omega
theorem hashI_bd (zs : List Int) : 0 ≤ hashI zs ∧ hashI zs ≤ 2147483646 := by
  unfold hashI
  suffices h : ∀ (l : List Int) (a : Int), 0 ≤ a ∧ a ≤ 2147483646 → 0 ≤ l.foldl hstep a ∧ l.foldl hstep a ≤ 2147483646 from h zs 11 (by omega)
  intro l
  induction l with
  | nil => intro a h; exact h
  | cons x l ih => intro a _; exact ih _ (hstep_bd _ _)
theorem hashI_take {zs : List Int} {k : Nat} (h : k < zs.length) : hashI (zs.take (k + 1)) = (hashI (zs.take k) * 1000003 + modP (nth zs k) + 13) % 2147483647 := by
  unfold hashI
  rw [List.take_add_one, nth_get h, List.foldl_append]
  rfl
theorem hashI_full (zs : List Int) : hashI (zs.take zs.length) = hashI zs := by rw [List.take_length]
theorem tmod_bd (v : Int) : -2147483646 ≤ v.tmod 2147483647 ∧ v.tmod 2147483647 ≤ 2147483646 := by
  have h1 := Int.tmod_lt_of_pos v (show (0 : Int) < 2147483647 by decide)
  have h2 := Int.lt_tmod_of_pos v (show (0 : Int) < 2147483647 by decide)
  omega
theorem tmod_modP (v : Int) : (v.tmod 2147483647 + 2147483647) % 2147483647 = modP v := by
  unfold modP
  rw [Int.add_emod_right, Int.tmod_eq_emod]
  split <;> simp
def keyedHash (key : Int) (l : List Int) : Int := hashI (key :: l ++ [key])
def markW (method secret : Int) (l : List Int) : Int := keyedHash secret (method :: l)
def digestOf (id : Int) (l : List Int) : Int := hashI (7 :: id :: l)
/- Keys, authorities. -/
def ownerOf (num : Int) (ks : List (List Int)) : Int := if findI 0 num ks < 0 then -1 else fld ks (findI 0 num ks).toNat 1
def stampKey (id : Int) (ks : List (List Int)) : Int := if findI 0 id ks < 0 then 0 else fld ks (findI 0 id ks).toNat 1
theorem ownerOf_none {num : Int} {ks : List (List Int)} (h : findI 0 num ks = -1) : -1 = ownerOf num ks := by simp [ownerOf, h]
theorem ownerOf_some {num : Int} {ks : List (List Int)} {k : Nat} (h : findI 0 num ks = (k : Int)) : fld ks k 1 = ownerOf num ks := by
  unfold ownerOf; rw [h, if_neg (by omega), Int.toNat_natCast]
theorem stampKey_none {num : Int} {ks : List (List Int)} (h : findI 0 num ks = -1) : 0 = stampKey num ks := by simp [stampKey, h]
theorem stampKey_some {num : Int} {ks : List (List Int)} {k : Nat} (h : findI 0 num ks = (k : Int)) : fld ks k 1 = stampKey num ks := by
  unfold stampKey; rw [h, if_neg (by omega), Int.toNat_natCast]
/- Spans: in how many of the first k spans a time is. -/
def inSp (ks : List (List Int)) (t : Int) (k : Nat) : Bool := spanB (fld ks k 0) (fld ks k 1) && inR t (fld ks k 0) (fld ks k 1)
def cntTo (ks : List (List Int)) (t : Int) : Nat → Nat
  | 0 => 0
  | k + 1 => cntTo ks t k + if inSp ks t k then 1 else 0
theorem cntTo_succ (ks : List (List Int)) (t : Int) (k : Nat) : ((cntTo ks t (k + 1) : Nat) : Int) = (cntTo ks t k : Nat) + if inSp ks t k then 1 else 0 := by
  show ((cntTo ks t k + if inSp ks t k then 1 else 0 : Nat) : Int) = _
  split <;> simp
theorem cntTo_le (ks : List (List Int)) (t : Int) (k : Nat) : cntTo ks t k ≤ k := by
  induction k with
  | zero => exact Nat.le_refl _
  | succ k ih => show cntTo ks t k + _ ≤ _; split <;> omega
theorem inSp_of_not {ks : List (List Int)} {t : Int} {k : Nat} (h : spanB (fld ks k 0) (fld ks k 1) = false) : (if inSp ks t k then (1 : Int) else 0) = 0 := by simp [inSp, h]
theorem inSp_of {ks : List (List Int)} {t : Int} {k : Nat} (h : spanB (fld ks k 0) (fld ks k 1) = true) (h0 : fld ks k 0 ≤ t) (h1 : t ≤ fld ks k 1) : (if inSp ks t k then (1 : Int) else 0) = 1 := by simp [inSp, h, inR, h0, h1]
theorem inSp_of_out {ks : List (List Int)} {t : Int} {k : Nat} (h : ¬ (fld ks k 0 ≤ t ∧ t ≤ fld ks k 1)) : (if inSp ks t k then (1 : Int) else 0) = 0 := by
  have : inR t (fld ks k 0) (fld ks k 1) = false := by
    cases hx : inR t (fld ks k 0) (fld ks k 1) with
    | false => rfl
    | true => exact absurd (inR_iff.1 hx) h
  simp [inSp, this]
def supB (ks : List (List Int)) (t liars : Int) : Bool := inR liars 0 ((ks.length : Int) - 1) && decide ((ks.length : Int) - liars ≤ (cntTo ks t ks.length : Nat))
theorem supB_in {ks : List (List Int)} {t liars : Int} (h : 0 ≤ liars ∧ liars ≤ (ks.length : Int) - 1) : supB ks t liars = decide ((ks.length : Int) - liars ≤ (cntTo ks t ks.length : Nat)) := by simp [supB, inR, h.1, h.2]
theorem supB_out {ks : List (List Int)} {t liars : Int} (h : ¬ (0 ≤ liars ∧ liars ≤ (ks.length : Int) - 1)) : supB ks t liars = false := by
  have : inR liars 0 ((ks.length : Int) - 1) = false := by
    cases hx : inR liars 0 ((ks.length : Int) - 1) with
    | false => rfl
    | true => exact absurd (inR_iff.1 hx) h
  simp [supB, this]
/- Answers about certificates: the least and the greatest Ended from 0 on, and the greatest AsOf of the other answers, among the first k. -/
def mx (a b : Int) : Int := if a < b then b else a
theorem mx_lt {a b : Int} (h : a < b) : mx a b = b := by simp [mx, h]
theorem mx_ge {a b : Int} (h : b ≤ a) : mx a b = a := by unfold mx; rw [if_neg (by omega)]
def lstTo (ks : List (List Int)) (s : Int) : Nat → Int
  | 0 => -1
  | k + 1 => if fld ks k 0 = s ∧ 0 ≤ fld ks k 2 ∧ (lstTo ks s k < 0 ∨ fld ks k 2 < lstTo ks s k) then fld ks k 2 else lstTo ks s k
def mostTo (ks : List (List Int)) (s : Int) : Nat → Int
  | 0 => -1
  | k + 1 => if fld ks k 0 = s ∧ 0 ≤ fld ks k 2 then mx (mostTo ks s k) (fld ks k 2) else mostTo ks s k
def goodTo (ks : List (List Int)) (s : Int) : Nat → Int
  | 0 => -1
  | k + 1 => if fld ks k 0 = s ∧ fld ks k 2 < 0 then mx (goodTo ks s k) (fld ks k 1) else goodTo ks s k
theorem ans_other {ks : List (List Int)} {s : Int} {k : Nat} (h : (fld ks k 0 == s) = false) : lstTo ks s (k + 1) = lstTo ks s k ∧ mostTo ks s (k + 1) = mostTo ks s k ∧ goodTo ks s (k + 1) = goodTo ks s k := by
  have h' : ¬ fld ks k 0 = s := by simpa using h
  simp [lstTo, mostTo, goodTo, h']
theorem ans_good {ks : List (List Int)} {s : Int} {k : Nat} (h : (fld ks k 0 == s) = true) (h2 : fld ks k 2 < 0) : lstTo ks s (k + 1) = lstTo ks s k ∧ mostTo ks s (k + 1) = mostTo ks s k ∧ goodTo ks s (k + 1) = mx (goodTo ks s k) (fld ks k 1) := by
  have h' : fld ks k 0 = s := by simpa using h
  have h3 : ¬ 0 ≤ fld ks k 2 := by omega
  simp [lstTo, mostTo, goodTo, h', h2, h3]
theorem ans_bad {ks : List (List Int)} {s : Int} {k : Nat} (h : (fld ks k 0 == s) = true) (h2 : 0 ≤ fld ks k 2) : mostTo ks s (k + 1) = mx (mostTo ks s k) (fld ks k 2) ∧ goodTo ks s (k + 1) = goodTo ks s k := by
  have h' : fld ks k 0 = s := by simpa using h
  have h3 : ¬ fld ks k 2 < 0 := by omega
  simp [mostTo, goodTo, h', h2, h3]
theorem ans_less {ks : List (List Int)} {s : Int} {k : Nat} (h : (fld ks k 0 == s) = true) (h2 : 0 ≤ fld ks k 2) (h3 : lstTo ks s k < 0 ∨ fld ks k 2 < lstTo ks s k) : lstTo ks s (k + 1) = fld ks k 2 := by
  have h' : fld ks k 0 = s := by simpa using h
  simp [lstTo, h', h2, h3]
theorem ans_stay {ks : List (List Int)} {s : Int} {k : Nat} (h3 : ¬ (lstTo ks s k < 0 ∨ fld ks k 2 < lstTo ks s k)) : lstTo ks s (k + 1) = lstTo ks s k := by
  simp only [lstTo]; rw [if_neg (by intro hh; exact h3 hh.2.2)]
theorem lstTo_bd (ks : List (List Int)) (s : Int) (k : Nat) : -1 ≤ lstTo ks s k := by
  induction k with
  | zero => simp [lstTo]
  | succ k ih => simp only [lstTo]; split <;> omega
def goodUntil (ks : List (List Int)) (s : Int) : Int := if lstTo ks s ks.length < 0 then goodTo ks s ks.length else wrap64 (lstTo ks s ks.length - 1)
def badFrom (ks : List (List Int)) (s : Int) : Int := if mostTo ks s ks.length < 0 then 10001 else mx (mostTo ks s ks.length) (wrap64 (goodTo ks s ks.length + 1))
def agreedB (ks : List (List Int)) (s : Int) : Bool := badFrom ks s == 10001 || badFrom ks s == wrap64 (goodUntil ks s + 1)
theorem goodUntil_neg {ks : List (List Int)} {s : Int} (h : lstTo ks s ks.length < 0) : goodTo ks s ks.length = goodUntil ks s := by simp [goodUntil, h]
theorem goodUntil_pos {ks : List (List Int)} {s : Int} (h : 0 ≤ lstTo ks s ks.length) : wrap64 (lstTo ks s ks.length - 1) = goodUntil ks s := by
  unfold goodUntil; rw [if_neg (by omega)]
theorem badFrom_neg {ks : List (List Int)} {s : Int} (h : mostTo ks s ks.length < 0) : 10001 = badFrom ks s := by simp [badFrom, h]
theorem badFrom_pos {ks : List (List Int)} {s : Int} (h : 0 ≤ mostTo ks s ks.length) : mx (mostTo ks s ks.length) (wrap64 (goodTo ks s ks.length + 1)) = badFrom ks s := by
  unfold badFrom; rw [if_neg (by omega)]
theorem mx_max (a b : Int) : max a b = mx a b := by unfold mx; split <;> omega
theorem agreedB_yes {ks : List (List Int)} {s : Int} (h : (badFrom ks s == 10001) = true) : true = agreedB ks s := by simp [agreedB, h]
theorem agreedB_no {ks : List (List Int)} {s : Int} (h : (badFrom ks s == 10001) = false) : (badFrom ks s == wrap64 (goodUntil ks s + 1)) = agreedB ks s := by simp [agreedB, h]
/- Marks. -/
def checkMarkB (num mark : Int) (ks : List (List Int)) (zs : List Int) : Bool :=
  if findI 0 num ks < 0 then false else markW (fld ks (findI 0 num ks).toNat 2) (fld ks (findI 0 num ks).toNat 4) zs == mark
theorem checkMarkB_none {num mark : Int} {ks : List (List Int)} {zs : List Int} (h : findI 0 num ks = -1) : false = checkMarkB num mark ks zs := by simp [checkMarkB, h]
theorem checkMarkB_some {num mark : Int} {ks : List (List Int)} {zs : List Int} {k : Nat} (h : findI 0 num ks = (k : Int)) : (markW (fld ks k 2) (fld ks k 4) zs == mark) = checkMarkB num mark ks zs := by
  unfold checkMarkB; rw [h, if_neg (by omega), Int.toNat_natCast]
/- Lists that are valid: each row is good, and there are not too many. -/
def AG (good : Nat → Bool) (k : Nat) : Prop := ∀ i, i < k → good i = true
theorem AG_zero (good : Nat → Bool) : AG good 0 := fun _ h => absurd h (by omega)
theorem AG_succ {good : Nat → Bool} {k : Nat} (h : AG good k) (e : good k = true) : AG good (k + 1) := fun i hi => by
  by_cases hh : i = k
  · rw [hh]; exact e
  · exact h i (by omega)
def areB (good : Nat → Bool) (n mx : Nat) : Bool := (List.range n).all good && decide (n ≤ mx)
theorem areB_bad {good : Nat → Bool} {n mx k : Nat} (hk : k < n) (e : good k = false) : false = areB good n mx := by
  have : (List.range n).all good = false := by
    cases hx : (List.range n).all good with
    | false => rfl
    | true => rw [List.all_eq_true] at hx; rw [hx k (List.mem_range.2 hk)] at e; cases e
  simp [areB, this]
theorem areB_end {good : Nat → Bool} {n mx : Nat} (h : AG good n) : decide ((n : Int) ≤ (mx : Int)) = areB good n mx := by
  have : (List.range n).all good = true := by
    rw [List.all_eq_true]
    intro i hi
    exact h i (List.mem_range.1 hi)
  unfold areB
  rw [this, Bool.true_and, Bool.eq_iff_iff]
  simp
def risesB (ks : List (List Int)) (k : Nat) : Bool := k == 0 || decide (fld ks (k - 1) 0 < fld ks k 0)
theorem risesB_zero {ks : List (List Int)} {k : Nat} (h : k = 0) : risesB ks k = true := by simp [risesB, h]
theorem risesB_yes {ks : List (List Int)} {k : Nat} (h : fld ks (k - 1) 0 < fld ks k 0) : risesB ks k = true := by simp [risesB, h]
theorem risesB_no {ks : List (List Int)} {k : Nat} (h : 0 < k) (h2 : fld ks k 0 ≤ fld ks (k - 1) 0) : risesB ks k = false := by
  have h3 : ¬ fld ks (k - 1) 0 < fld ks k 0 := by omega
  have h4 : ¬ k = 0 := by omega
  simp [risesB, h3, h4]
def goodKey (ks : List (List Int)) (k : Nat) : Bool := keyB (fld ks k 0) (fld ks k 1) (fld ks k 2) (fld ks k 3) (fld ks k 4) && risesB ks k
def goodAuth (ks : List (List Int)) (k : Nat) : Bool := inR (fld ks k 0) 0 99 && inR (fld ks k 1) 1 99 && inR (fld ks k 2) 0 100 && risesB ks k
end Go.Proofs.Ytkdpfbodmfjkkaa
