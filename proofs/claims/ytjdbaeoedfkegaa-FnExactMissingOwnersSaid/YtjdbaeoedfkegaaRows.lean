/-
  No cell of these rows narrows 'for every input' (looked for: loops, veiled, ifaces, maps, wideKeys, modest, calm, conditions, laid).
  DERIVED. THE GIVEN ROWS OF THIS SEAT. 12 by the template 'for every input the law returns true; each argument reads behind the call as it read before'; 0 by the template 'total and deterministic' (their statements: YtjdbaeoedfkegaaTotals.lean).
  GIVEN WITH THE SEED: the statements are not yours to turn. If you find one false, say at which input.
  Laid BY PROGRAM, IN A SANDBOX (cutbox-rows.mjs): the forced cells as the released guide's own fill.sh prints them over the translation dc4f1654d6e1b25b… (all of the seat's roots in one cut). By AI agents, Wed Nov 11 2026. No macro, syntax, notation, axiom, sorry.
-/
import Derived.Test.YtjdbaeoedfkegaaChecked
import GoSem.Claim
import GoSem.ClaimJoined
import GoSem.ClaimMapViews
import Derived.JoinedTies
import Derived.KernelRfl
namespace Go.Proofs.Ytjdbaeoedfkegaa
/- THE CELL 'sum', in the pinned program and in every row, IS THE sha256 OF THE DUMP (.gsa) THAT YtjdbaeoedfkegaaProg.lean LOADS. Nothing in Lean hashes anything: it is a label: what it is worth is what the hold of that sum in a sandbox is worth. -/
noncomputable def Try.pinned : Pinned := { name := "ytjdbaeoedfkegaa", sum := "dc4f1654d6e1b25b3ba5d933a036d18e51d33c8a91b66ad34c1f46551e175733", checked := Try.checked }
namespace Rows
def none {H : Type} : Left H := { results := [], args := [] }

/-- 'laws.FnExactIsStatus': WHATEVER THE INPUT: true; the input reads as it did. -/
def fnExactIsStatusSpec : ChangeSpec := { name := "fnExactIsStatus", fn := fun _ => fun
  | [d] => { results := [.lit (.bool true)], args := [d] }
  | _ => none }
def fnExactIsStatusRow : OpenClaim := { program := "ytjdbaeoedfkegaa", sum := "dc4f1654d6e1b25b3ba5d933a036d18e51d33c8a91b66ad34c1f46551e175733", func := "loop.example/g00597/laws.FnExactIsStatus", spec := "fnExactIsStatus", apart := false }
def FnExactIsStatusSaid : Prop := fnExactIsStatusRow.holds Try.pinned (OpenSpec.ofChange fnExactIsStatusSpec)

/-- ITS FALSE NEIGHBOUR: 'it returns false'. Refute it at one input. -/
def fnExactIsStatusWrong : ChangeSpec := { name := "fnExactIsStatus", fn := fun _ => fun
  | [d] => { results := [.lit (.bool false)], args := [d] }
  | _ => none }
def FnExactIsStatusWrongFalsely : Prop := fnExactIsStatusRow.holds Try.pinned (OpenSpec.ofChange fnExactIsStatusWrong)

/-- 'laws.FnExactIsSignature': WHATEVER THE INPUT: true; the input reads as it did. -/
def fnExactIsSignatureSpec : ChangeSpec := { name := "fnExactIsSignature", fn := fun _ => fun
  | [d] => { results := [.lit (.bool true)], args := [d] }
  | _ => none }
def fnExactIsSignatureRow : OpenClaim := { program := "ytjdbaeoedfkegaa", sum := "dc4f1654d6e1b25b3ba5d933a036d18e51d33c8a91b66ad34c1f46551e175733", func := "loop.example/g00597/laws.FnExactIsSignature", spec := "fnExactIsSignature", apart := false }
def FnExactIsSignatureSaid : Prop := fnExactIsSignatureRow.holds Try.pinned (OpenSpec.ofChange fnExactIsSignatureSpec)

/-- ITS FALSE NEIGHBOUR: 'it returns false'. Refute it at one input. -/
def fnExactIsSignatureWrong : ChangeSpec := { name := "fnExactIsSignature", fn := fun _ => fun
  | [d] => { results := [.lit (.bool false)], args := [d] }
  | _ => none }
def FnExactIsSignatureWrongFalsely : Prop := fnExactIsSignatureRow.holds Try.pinned (OpenSpec.ofChange fnExactIsSignatureWrong)

/-- 'laws.FnExactCertSpan': WHATEVER THE INPUT: true; the input reads as it did. -/
def fnExactCertSpanSpec : ChangeSpec := { name := "fnExactCertSpan", fn := fun _ => fun
  | [d] => { results := [.lit (.bool true)], args := [d] }
  | _ => none }
def fnExactCertSpanRow : OpenClaim := { program := "ytjdbaeoedfkegaa", sum := "dc4f1654d6e1b25b3ba5d933a036d18e51d33c8a91b66ad34c1f46551e175733", func := "loop.example/g00597/laws.FnExactCertSpan", spec := "fnExactCertSpan", apart := false }
def FnExactCertSpanSaid : Prop := fnExactCertSpanRow.holds Try.pinned (OpenSpec.ofChange fnExactCertSpanSpec)

/-- ITS FALSE NEIGHBOUR: 'it returns false'. Refute it at one input. -/
def fnExactCertSpanWrong : ChangeSpec := { name := "fnExactCertSpan", fn := fun _ => fun
  | [d] => { results := [.lit (.bool false)], args := [d] }
  | _ => none }
def FnExactCertSpanWrongFalsely : Prop := fnExactCertSpanRow.holds Try.pinned (OpenSpec.ofChange fnExactCertSpanWrong)

/-- 'laws.FnExactIsMandate': WHATEVER THE INPUT: true; the input reads as it did. -/
def fnExactIsMandateSpec : ChangeSpec := { name := "fnExactIsMandate", fn := fun _ => fun
  | [d] => { results := [.lit (.bool true)], args := [d] }
  | _ => none }
def fnExactIsMandateRow : OpenClaim := { program := "ytjdbaeoedfkegaa", sum := "dc4f1654d6e1b25b3ba5d933a036d18e51d33c8a91b66ad34c1f46551e175733", func := "loop.example/g00597/laws.FnExactIsMandate", spec := "fnExactIsMandate", apart := false }
def FnExactIsMandateSaid : Prop := fnExactIsMandateRow.holds Try.pinned (OpenSpec.ofChange fnExactIsMandateSpec)

/-- ITS FALSE NEIGHBOUR: 'it returns false'. Refute it at one input. -/
def fnExactIsMandateWrong : ChangeSpec := { name := "fnExactIsMandate", fn := fun _ => fun
  | [d] => { results := [.lit (.bool false)], args := [d] }
  | _ => none }
def FnExactIsMandateWrongFalsely : Prop := fnExactIsMandateRow.holds Try.pinned (OpenSpec.ofChange fnExactIsMandateWrong)

/-- 'laws.FnExactIsCert': WHATEVER THE INPUT: true; the input reads as it did. -/
def fnExactIsCertSpec : ChangeSpec := { name := "fnExactIsCert", fn := fun _ => fun
  | [d] => { results := [.lit (.bool true)], args := [d] }
  | _ => none }
def fnExactIsCertRow : OpenClaim := { program := "ytjdbaeoedfkegaa", sum := "dc4f1654d6e1b25b3ba5d933a036d18e51d33c8a91b66ad34c1f46551e175733", func := "loop.example/g00597/laws.FnExactIsCert", spec := "fnExactIsCert", apart := false }
def FnExactIsCertSaid : Prop := fnExactIsCertRow.holds Try.pinned (OpenSpec.ofChange fnExactIsCertSpec)

/-- ITS FALSE NEIGHBOUR: 'it returns false'. Refute it at one input. -/
def fnExactIsCertWrong : ChangeSpec := { name := "fnExactIsCert", fn := fun _ => fun
  | [d] => { results := [.lit (.bool false)], args := [d] }
  | _ => none }
def FnExactIsCertWrongFalsely : Prop := fnExactIsCertRow.holds Try.pinned (OpenSpec.ofChange fnExactIsCertWrong)

/-- 'laws.FnExactSuccessionInts': WHATEVER THE INPUT: true; the input reads as it did. -/
def fnExactSuccessionIntsSpec : ChangeSpec := { name := "fnExactSuccessionInts", fn := fun _ => fun
  | [d] => { results := [.lit (.bool true)], args := [d] }
  | _ => none }
def fnExactSuccessionIntsRow : OpenClaim := { program := "ytjdbaeoedfkegaa", sum := "dc4f1654d6e1b25b3ba5d933a036d18e51d33c8a91b66ad34c1f46551e175733", func := "loop.example/g00597/laws.FnExactSuccessionInts", spec := "fnExactSuccessionInts", apart := false }
def FnExactSuccessionIntsSaid : Prop := fnExactSuccessionIntsRow.holds Try.pinned (OpenSpec.ofChange fnExactSuccessionIntsSpec)

/-- ITS FALSE NEIGHBOUR: 'it returns false'. Refute it at one input. -/
def fnExactSuccessionIntsWrong : ChangeSpec := { name := "fnExactSuccessionInts", fn := fun _ => fun
  | [d] => { results := [.lit (.bool false)], args := [d] }
  | _ => none }
def FnExactSuccessionIntsWrongFalsely : Prop := fnExactSuccessionIntsRow.holds Try.pinned (OpenSpec.ofChange fnExactSuccessionIntsWrong)

/-- 'laws.FnExactStampInts': WHATEVER THE INPUT: true; the input reads as it did. -/
def fnExactStampIntsSpec : ChangeSpec := { name := "fnExactStampInts", fn := fun _ => fun
  | [d] => { results := [.lit (.bool true)], args := [d] }
  | _ => none }
def fnExactStampIntsRow : OpenClaim := { program := "ytjdbaeoedfkegaa", sum := "dc4f1654d6e1b25b3ba5d933a036d18e51d33c8a91b66ad34c1f46551e175733", func := "loop.example/g00597/laws.FnExactStampInts", spec := "fnExactStampInts", apart := false }
def FnExactStampIntsSaid : Prop := fnExactStampIntsRow.holds Try.pinned (OpenSpec.ofChange fnExactStampIntsSpec)

/-- ITS FALSE NEIGHBOUR: 'it returns false'. Refute it at one input. -/
def fnExactStampIntsWrong : ChangeSpec := { name := "fnExactStampInts", fn := fun _ => fun
  | [d] => { results := [.lit (.bool false)], args := [d] }
  | _ => none }
def FnExactStampIntsWrongFalsely : Prop := fnExactStampIntsRow.holds Try.pinned (OpenSpec.ofChange fnExactStampIntsWrong)

/-- 'laws.FnExactMissingOwners': WHATEVER THE INPUT: true; the input reads as it did. -/
def fnExactMissingOwnersSpec : ChangeSpec := { name := "fnExactMissingOwners", fn := fun _ => fun
  | [d1, d2, d3, d4] => { results := [.lit (.bool true)], args := [d1, d2, d3, d4] }
  | _ => none }
def fnExactMissingOwnersRow : OpenClaim := { program := "ytjdbaeoedfkegaa", sum := "dc4f1654d6e1b25b3ba5d933a036d18e51d33c8a91b66ad34c1f46551e175733", func := "loop.example/g00597/laws.FnExactMissingOwners", spec := "fnExactMissingOwners", apart := false }
def FnExactMissingOwnersSaid : Prop := fnExactMissingOwnersRow.holds Try.pinned (OpenSpec.ofChange fnExactMissingOwnersSpec)

/-- ITS FALSE NEIGHBOUR: 'it returns false'. Refute it at one input. -/
def fnExactMissingOwnersWrong : ChangeSpec := { name := "fnExactMissingOwners", fn := fun _ => fun
  | [d1, d2, d3, d4] => { results := [.lit (.bool false)], args := [d1, d2, d3, d4] }
  | _ => none }
def FnExactMissingOwnersWrongFalsely : Prop := fnExactMissingOwnersRow.holds Try.pinned (OpenSpec.ofChange fnExactMissingOwnersWrong)

/-- 'laws.FnExactStatusInts': WHATEVER THE INPUT: true; the input reads as it did. -/
def fnExactStatusIntsSpec : ChangeSpec := { name := "fnExactStatusInts", fn := fun _ => fun
  | [d] => { results := [.lit (.bool true)], args := [d] }
  | _ => none }
def fnExactStatusIntsRow : OpenClaim := { program := "ytjdbaeoedfkegaa", sum := "dc4f1654d6e1b25b3ba5d933a036d18e51d33c8a91b66ad34c1f46551e175733", func := "loop.example/g00597/laws.FnExactStatusInts", spec := "fnExactStatusInts", apart := false }
def FnExactStatusIntsSaid : Prop := fnExactStatusIntsRow.holds Try.pinned (OpenSpec.ofChange fnExactStatusIntsSpec)

/-- ITS FALSE NEIGHBOUR: 'it returns false'. Refute it at one input. -/
def fnExactStatusIntsWrong : ChangeSpec := { name := "fnExactStatusInts", fn := fun _ => fun
  | [d] => { results := [.lit (.bool false)], args := [d] }
  | _ => none }
def FnExactStatusIntsWrongFalsely : Prop := fnExactStatusIntsRow.holds Try.pinned (OpenSpec.ofChange fnExactStatusIntsWrong)

/-- 'laws.FnExactMandateInts': WHATEVER THE INPUT: true; the input reads as it did. -/
def fnExactMandateIntsSpec : ChangeSpec := { name := "fnExactMandateInts", fn := fun _ => fun
  | [d] => { results := [.lit (.bool true)], args := [d] }
  | _ => none }
def fnExactMandateIntsRow : OpenClaim := { program := "ytjdbaeoedfkegaa", sum := "dc4f1654d6e1b25b3ba5d933a036d18e51d33c8a91b66ad34c1f46551e175733", func := "loop.example/g00597/laws.FnExactMandateInts", spec := "fnExactMandateInts", apart := false }
def FnExactMandateIntsSaid : Prop := fnExactMandateIntsRow.holds Try.pinned (OpenSpec.ofChange fnExactMandateIntsSpec)

/-- ITS FALSE NEIGHBOUR: 'it returns false'. Refute it at one input. -/
def fnExactMandateIntsWrong : ChangeSpec := { name := "fnExactMandateInts", fn := fun _ => fun
  | [d] => { results := [.lit (.bool false)], args := [d] }
  | _ => none }
def FnExactMandateIntsWrongFalsely : Prop := fnExactMandateIntsRow.holds Try.pinned (OpenSpec.ofChange fnExactMandateIntsWrong)

/-- 'laws.FnExactCertInts': WHATEVER THE INPUT: true; the input reads as it did. -/
def fnExactCertIntsSpec : ChangeSpec := { name := "fnExactCertInts", fn := fun _ => fun
  | [d] => { results := [.lit (.bool true)], args := [d] }
  | _ => none }
def fnExactCertIntsRow : OpenClaim := { program := "ytjdbaeoedfkegaa", sum := "dc4f1654d6e1b25b3ba5d933a036d18e51d33c8a91b66ad34c1f46551e175733", func := "loop.example/g00597/laws.FnExactCertInts", spec := "fnExactCertInts", apart := false }
def FnExactCertIntsSaid : Prop := fnExactCertIntsRow.holds Try.pinned (OpenSpec.ofChange fnExactCertIntsSpec)

/-- ITS FALSE NEIGHBOUR: 'it returns false'. Refute it at one input. -/
def fnExactCertIntsWrong : ChangeSpec := { name := "fnExactCertInts", fn := fun _ => fun
  | [d] => { results := [.lit (.bool false)], args := [d] }
  | _ => none }
def FnExactCertIntsWrongFalsely : Prop := fnExactCertIntsRow.holds Try.pinned (OpenSpec.ofChange fnExactCertIntsWrong)

/-- 'laws.FnExactSignatureInts': WHATEVER THE INPUT: true; the input reads as it did. -/
def fnExactSignatureIntsSpec : ChangeSpec := { name := "fnExactSignatureInts", fn := fun _ => fun
  | [d] => { results := [.lit (.bool true)], args := [d] }
  | _ => none }
def fnExactSignatureIntsRow : OpenClaim := { program := "ytjdbaeoedfkegaa", sum := "dc4f1654d6e1b25b3ba5d933a036d18e51d33c8a91b66ad34c1f46551e175733", func := "loop.example/g00597/laws.FnExactSignatureInts", spec := "fnExactSignatureInts", apart := false }
def FnExactSignatureIntsSaid : Prop := fnExactSignatureIntsRow.holds Try.pinned (OpenSpec.ofChange fnExactSignatureIntsSpec)

/-- ITS FALSE NEIGHBOUR: 'it returns false'. Refute it at one input. -/
def fnExactSignatureIntsWrong : ChangeSpec := { name := "fnExactSignatureInts", fn := fun _ => fun
  | [d] => { results := [.lit (.bool false)], args := [d] }
  | _ => none }
def FnExactSignatureIntsWrongFalsely : Prop := fnExactSignatureIntsRow.holds Try.pinned (OpenSpec.ofChange fnExactSignatureIntsWrong)

/- THE SECOND FORM. 'bulk': how many values and letters a reading holds, each counted each time it is reached (what is shared counts as often as it is met; a slice's spare places count too). A statement '..UptoSaid' is the law's where the arguments, and the package variables that the reading takes, are together of bulk at most 1048576: NARROWER than '..Said'. Prove '..Said' where nothing that the law and all that it calls make is longer than what came in: it says more and counts as full. Else prove '..UptoSaid'. A law counts once. -/
mutual
def uptoBulk {H : Type} : DataW H → Nat
  | .lit (.string bytes) => bytes.length + 1
  | .lit _ => 1
  | .nil => 1
  | .ptr d => uptoBulk d + 1
  | .slice elems spare => uptoBulkAll elems + uptoBulkAll spare + 1
  | .agg parts => uptoBulkAll parts + 1
  | .iface _ d => uptoBulk d + 1
  | .map entries => uptoBulkEntries entries + 1
  | .held _ => 1
def uptoBulkAll {H : Type} : List (DataW H) → Nat
  | [] => 0
  | d :: r => uptoBulk d + uptoBulkAll r
def uptoBulkEntries {H : Type} : List (Lit × DataW H) → Nat
  | [] => 0
  | x :: r => uptoBulkEntry x + uptoBulkEntries r
def uptoBulkEntry {H : Type} : Lit × DataW H → Nat
  | (.string bytes, d) => bytes.length + uptoBulk d + 1
  | (_, d) => uptoBulk d + 1
 end
def uptoSmall : (H : Type) → List (DataW H) → Bool := fun _ ds => decide (uptoBulkAll ds ≤ 1048576)
def OpenSpec.upto (s : _root_.Go.ChangeSpec) : _root_.Go.OpenSpec := { _root_.Go.OpenSpec.ofChange s with cond := some uptoSmall }

/-- 'laws.FnExactIsStatus', WHERE WHAT IT READS IS OF BULK AT MOST 1048576: true; the input reads as it did. -/
def fnExactIsStatusUptoRow : OpenClaim := { program := "ytjdbaeoedfkegaa", sum := "dc4f1654d6e1b25b3ba5d933a036d18e51d33c8a91b66ad34c1f46551e175733", func := "loop.example/g00597/laws.FnExactIsStatus", spec := "fnExactIsStatus", apart := false, narrowed := true }
def FnExactIsStatusUptoSaid : Prop := fnExactIsStatusUptoRow.holds Try.pinned (OpenSpec.upto fnExactIsStatusSpec)

/-- 'laws.FnExactIsSignature', WHERE WHAT IT READS IS OF BULK AT MOST 1048576: true; the input reads as it did. -/
def fnExactIsSignatureUptoRow : OpenClaim := { program := "ytjdbaeoedfkegaa", sum := "dc4f1654d6e1b25b3ba5d933a036d18e51d33c8a91b66ad34c1f46551e175733", func := "loop.example/g00597/laws.FnExactIsSignature", spec := "fnExactIsSignature", apart := false, narrowed := true }
def FnExactIsSignatureUptoSaid : Prop := fnExactIsSignatureUptoRow.holds Try.pinned (OpenSpec.upto fnExactIsSignatureSpec)

/-- 'laws.FnExactCertSpan', WHERE WHAT IT READS IS OF BULK AT MOST 1048576: true; the input reads as it did. -/
def fnExactCertSpanUptoRow : OpenClaim := { program := "ytjdbaeoedfkegaa", sum := "dc4f1654d6e1b25b3ba5d933a036d18e51d33c8a91b66ad34c1f46551e175733", func := "loop.example/g00597/laws.FnExactCertSpan", spec := "fnExactCertSpan", apart := false, narrowed := true }
def FnExactCertSpanUptoSaid : Prop := fnExactCertSpanUptoRow.holds Try.pinned (OpenSpec.upto fnExactCertSpanSpec)

/-- 'laws.FnExactIsMandate', WHERE WHAT IT READS IS OF BULK AT MOST 1048576: true; the input reads as it did. -/
def fnExactIsMandateUptoRow : OpenClaim := { program := "ytjdbaeoedfkegaa", sum := "dc4f1654d6e1b25b3ba5d933a036d18e51d33c8a91b66ad34c1f46551e175733", func := "loop.example/g00597/laws.FnExactIsMandate", spec := "fnExactIsMandate", apart := false, narrowed := true }
def FnExactIsMandateUptoSaid : Prop := fnExactIsMandateUptoRow.holds Try.pinned (OpenSpec.upto fnExactIsMandateSpec)

/-- 'laws.FnExactIsCert', WHERE WHAT IT READS IS OF BULK AT MOST 1048576: true; the input reads as it did. -/
def fnExactIsCertUptoRow : OpenClaim := { program := "ytjdbaeoedfkegaa", sum := "dc4f1654d6e1b25b3ba5d933a036d18e51d33c8a91b66ad34c1f46551e175733", func := "loop.example/g00597/laws.FnExactIsCert", spec := "fnExactIsCert", apart := false, narrowed := true }
def FnExactIsCertUptoSaid : Prop := fnExactIsCertUptoRow.holds Try.pinned (OpenSpec.upto fnExactIsCertSpec)

/-- 'laws.FnExactSuccessionInts', WHERE WHAT IT READS IS OF BULK AT MOST 1048576: true; the input reads as it did. -/
def fnExactSuccessionIntsUptoRow : OpenClaim := { program := "ytjdbaeoedfkegaa", sum := "dc4f1654d6e1b25b3ba5d933a036d18e51d33c8a91b66ad34c1f46551e175733", func := "loop.example/g00597/laws.FnExactSuccessionInts", spec := "fnExactSuccessionInts", apart := false, narrowed := true }
def FnExactSuccessionIntsUptoSaid : Prop := fnExactSuccessionIntsUptoRow.holds Try.pinned (OpenSpec.upto fnExactSuccessionIntsSpec)

/-- 'laws.FnExactStampInts', WHERE WHAT IT READS IS OF BULK AT MOST 1048576: true; the input reads as it did. -/
def fnExactStampIntsUptoRow : OpenClaim := { program := "ytjdbaeoedfkegaa", sum := "dc4f1654d6e1b25b3ba5d933a036d18e51d33c8a91b66ad34c1f46551e175733", func := "loop.example/g00597/laws.FnExactStampInts", spec := "fnExactStampInts", apart := false, narrowed := true }
def FnExactStampIntsUptoSaid : Prop := fnExactStampIntsUptoRow.holds Try.pinned (OpenSpec.upto fnExactStampIntsSpec)

/-- 'laws.FnExactMissingOwners', WHERE WHAT IT READS IS OF BULK AT MOST 1048576: true; the input reads as it did. -/
def fnExactMissingOwnersUptoRow : OpenClaim := { program := "ytjdbaeoedfkegaa", sum := "dc4f1654d6e1b25b3ba5d933a036d18e51d33c8a91b66ad34c1f46551e175733", func := "loop.example/g00597/laws.FnExactMissingOwners", spec := "fnExactMissingOwners", apart := false, narrowed := true }
def FnExactMissingOwnersUptoSaid : Prop := fnExactMissingOwnersUptoRow.holds Try.pinned (OpenSpec.upto fnExactMissingOwnersSpec)

/-- 'laws.FnExactStatusInts', WHERE WHAT IT READS IS OF BULK AT MOST 1048576: true; the input reads as it did. -/
def fnExactStatusIntsUptoRow : OpenClaim := { program := "ytjdbaeoedfkegaa", sum := "dc4f1654d6e1b25b3ba5d933a036d18e51d33c8a91b66ad34c1f46551e175733", func := "loop.example/g00597/laws.FnExactStatusInts", spec := "fnExactStatusInts", apart := false, narrowed := true }
def FnExactStatusIntsUptoSaid : Prop := fnExactStatusIntsUptoRow.holds Try.pinned (OpenSpec.upto fnExactStatusIntsSpec)

/-- 'laws.FnExactMandateInts', WHERE WHAT IT READS IS OF BULK AT MOST 1048576: true; the input reads as it did. -/
def fnExactMandateIntsUptoRow : OpenClaim := { program := "ytjdbaeoedfkegaa", sum := "dc4f1654d6e1b25b3ba5d933a036d18e51d33c8a91b66ad34c1f46551e175733", func := "loop.example/g00597/laws.FnExactMandateInts", spec := "fnExactMandateInts", apart := false, narrowed := true }
def FnExactMandateIntsUptoSaid : Prop := fnExactMandateIntsUptoRow.holds Try.pinned (OpenSpec.upto fnExactMandateIntsSpec)

/-- 'laws.FnExactCertInts', WHERE WHAT IT READS IS OF BULK AT MOST 1048576: true; the input reads as it did. -/
def fnExactCertIntsUptoRow : OpenClaim := { program := "ytjdbaeoedfkegaa", sum := "dc4f1654d6e1b25b3ba5d933a036d18e51d33c8a91b66ad34c1f46551e175733", func := "loop.example/g00597/laws.FnExactCertInts", spec := "fnExactCertInts", apart := false, narrowed := true }
def FnExactCertIntsUptoSaid : Prop := fnExactCertIntsUptoRow.holds Try.pinned (OpenSpec.upto fnExactCertIntsSpec)

/-- 'laws.FnExactSignatureInts', WHERE WHAT IT READS IS OF BULK AT MOST 1048576: true; the input reads as it did. -/
def fnExactSignatureIntsUptoRow : OpenClaim := { program := "ytjdbaeoedfkegaa", sum := "dc4f1654d6e1b25b3ba5d933a036d18e51d33c8a91b66ad34c1f46551e175733", func := "loop.example/g00597/laws.FnExactSignatureInts", spec := "fnExactSignatureInts", apart := false, narrowed := true }
def FnExactSignatureIntsUptoSaid : Prop := fnExactSignatureIntsUptoRow.holds Try.pinned (OpenSpec.upto fnExactSignatureIntsSpec)

end Rows
end Go.Proofs.Ytjdbaeoedfkegaa
