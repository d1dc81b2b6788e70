/- Plain functions: what the tests, digests and marks compute. Nothing here speaks of the program. -/
import Derived.Test.YtjdbaeoedfkegaaBase
namespace Go.Proofs.Ytjdbaeoedfkegaa
open Go.RowKit

def keyB (a0 a1 a2 a3 a4 : Int) : Bool := inR a0 1 99 && inR a1 0 99 && inR a2 0 99 && timeB a3 && inR a4 1 2147483646
theorem keyB_iff {a0 a1 a2 a3 a4 : Int} : keyB a0 a1 a2 a3 a4 = true ↔ (1 ≤ a0 ∧ a0 ≤ 99) ∧ (0 ≤ a1 ∧ a1 ≤ 99) ∧ (0 ≤ a2 ∧ a2 ≤ 99) ∧ (0 ≤ a3 ∧ a3 ≤ 10000) ∧ (1 ≤ a4 ∧ a4 ≤ 2147483646) := by
  simp [keyB, timeB, inR, and_assoc]
def signatureB (a0 a1 a2 a3 a4 a5 a6 a7 _a8 : Int) : Bool := inR a0 1 99 && inR a1 1 999 && inR a2 0 99 && inR a5 0 99 && inR a4 1 3 && inR a3 0 1000000000000 && inR a6 0 1000000000000 && inR a7 0 1000000000000
theorem signatureB_iff {a0 a1 a2 a3 a4 a5 a6 a7 a8 : Int} : signatureB a0 a1 a2 a3 a4 a5 a6 a7 a8 = true ↔ (1 ≤ a0 ∧ a0 ≤ 99) ∧ (1 ≤ a1 ∧ a1 ≤ 999) ∧ (0 ≤ a2 ∧ a2 ≤ 99) ∧ (0 ≤ a5 ∧ a5 ≤ 99) ∧ (1 ≤ a4 ∧ a4 ≤ 3) ∧ (0 ≤ a3 ∧ a3 ≤ 1000000000000) ∧ (0 ≤ a6 ∧ a6 ≤ 1000000000000) ∧ (0 ≤ a7 ∧ a7 ≤ 1000000000000) := by
  simp [signatureB, inR, and_assoc]
def mandateB (a0 a1 a2 a3 a4 _a5 : Int) : Bool := inR a0 1 99 && inR a1 0 99 && inR a4 1 99 && spanB a2 a3
theorem mandateB_iff {a0 a1 a2 a3 a4 a5 : Int} : mandateB a0 a1 a2 a3 a4 a5 = true ↔ (1 ≤ a0 ∧ a0 ≤ 99) ∧ (0 ≤ a1 ∧ a1 ≤ 99) ∧ (1 ≤ a4 ∧ a4 ≤ 99) ∧ 0 ≤ a2 ∧ a2 ≤ a3 ∧ a3 ≤ 10000 := by
  simp [mandateB, inR, spanB_iff, and_assoc]
def certB (a0 a1 a2 a3 a4 a5 _a6 : Int) : Bool := inR a0 1 999 && inR a1 1 99 && inR a5 1 99 && !(a1 == a5) && inR a2 0 99 && spanB a3 a4
theorem certB_iff {a0 a1 a2 a3 a4 a5 a6 : Int} : certB a0 a1 a2 a3 a4 a5 a6 = true ↔ (1 ≤ a0 ∧ a0 ≤ 999) ∧ (1 ≤ a1 ∧ a1 ≤ 99) ∧ (1 ≤ a5 ∧ a5 ≤ 99) ∧ a1 ≠ a5 ∧ (0 ≤ a2 ∧ a2 ≤ 99) ∧ 0 ≤ a3 ∧ a3 ≤ a4 ∧ a4 ≤ 10000 := by
  simp [certB, inR, spanB_iff, and_assoc]
def statusB (a0 a1 a2 a3 _a4 : Int) : Bool := inR a0 1 999 && timeB a1 && inR a2 (-1) (a1 + 1) && inR a3 1 99
theorem statusB_iff {a0 a1 a2 a3 a4 : Int} : statusB a0 a1 a2 a3 a4 = true ↔ (1 ≤ a0 ∧ a0 ≤ 999) ∧ (0 ≤ a1 ∧ a1 ≤ 10000) ∧ (-1 ≤ a2 ∧ a2 ≤ a1 + 1) ∧ (1 ≤ a3 ∧ a3 ≤ 99) := by
  simp [statusB, timeB, inR, and_assoc]
end Go.Proofs.Ytjdbaeoedfkegaa
