/-
  No cell of these rows narrows 'for every input' (looked for: loops, veiled, ifaces, maps, wideKeys, modest, calm, conditions, laid).
  DERIVED. THE GIVEN ROWS OF THIS SEAT. 12 by the template 'for every input the law returns true; each argument reads behind the call as it read before'; 0 by the template 'total and deterministic' (their statements: YtkdpfbodmfjkkaaTotals.lean).
  GIVEN WITH THE SEED: the statements are not yours to turn. If you find one false, say at which input.
  Laid BY PROGRAM, IN A SANDBOX (cutbox-rows.mjs): the forced cells as the released guide's own fill.sh prints them over the translation bc38c031c31c4c23… (all of the seat's roots in one cut). By AI agents, Wed Nov 11 2026. No macro, syntax, notation, axiom, sorry.
-/
import Derived.Test.YtkdpfbodmfjkkaaChecked
import GoSem.Claim
import GoSem.ClaimJoined
import GoSem.ClaimMapViews
import Derived.JoinedTies
import Derived.KernelRfl
namespace Go.Proofs.Ytkdpfbodmfjkkaa
/- THE CELL 'sum', in the pinned program and in every row, IS THE sha256 OF THE DUMP (.gsa) THAT YtkdpfbodmfjkkaaProg.lean LOADS. Nothing in Lean hashes anything: it is a label: what it is worth is what the hold of that sum in a sandbox is worth. -/
noncomputable def Try.pinned : Pinned := { name := "ytkdpfbodmfjkkaa", sum := "bc38c031c31c4c231236ddaf451b0703908a28054aad41442728d880ddbfc3ed", checked := Try.checked }
namespace Rows
def none {H : Type} : Left H := { results := [], args := [] }

/-- 'laws.FnExactMeetsRule': WHATEVER THE INPUT: true; the input reads as it did. -/
def fnExactMeetsRuleSpec : ChangeSpec := { name := "fnExactMeetsRule", fn := fun _ => fun
  | [d1, d2, d3, d4] => { results := [.lit (.bool true)], args := [d1, d2, d3, d4] }
  | _ => none }
def fnExactMeetsRuleRow : OpenClaim := { program := "ytkdpfbodmfjkkaa", sum := "bc38c031c31c4c231236ddaf451b0703908a28054aad41442728d880ddbfc3ed", func := "loop.example/g00597/laws.FnExactMeetsRule", spec := "fnExactMeetsRule", apart := false }
def FnExactMeetsRuleSaid : Prop := fnExactMeetsRuleRow.holds Try.pinned (OpenSpec.ofChange fnExactMeetsRuleSpec)

/-- ITS FALSE NEIGHBOUR: 'it returns false'. Refute it at one input. -/
def fnExactMeetsRuleWrong : ChangeSpec := { name := "fnExactMeetsRule", fn := fun _ => fun
  | [d1, d2, d3, d4] => { results := [.lit (.bool false)], args := [d1, d2, d3, d4] }
  | _ => none }
def FnExactMeetsRuleWrongFalsely : Prop := fnExactMeetsRuleRow.holds Try.pinned (OpenSpec.ofChange fnExactMeetsRuleWrong)

/-- 'laws.FnAgreedTimes': WHATEVER THE INPUT: true; the input reads as it did. -/
def fnAgreedTimesSpec : ChangeSpec := { name := "fnAgreedTimes", fn := fun _ => fun
  | [d] => { results := [.lit (.bool true)], args := [d] }
  | _ => none }
def fnAgreedTimesRow : OpenClaim := { program := "ytkdpfbodmfjkkaa", sum := "bc38c031c31c4c231236ddaf451b0703908a28054aad41442728d880ddbfc3ed", func := "loop.example/g00597/laws.FnAgreedTimes", spec := "fnAgreedTimes", apart := false }
def FnAgreedTimesSaid : Prop := fnAgreedTimesRow.holds Try.pinned (OpenSpec.ofChange fnAgreedTimesSpec)

/-- ITS FALSE NEIGHBOUR: 'it returns false'. Refute it at one input. -/
def fnAgreedTimesWrong : ChangeSpec := { name := "fnAgreedTimes", fn := fun _ => fun
  | [d] => { results := [.lit (.bool false)], args := [d] }
  | _ => none }
def FnAgreedTimesWrongFalsely : Prop := fnAgreedTimesRow.holds Try.pinned (OpenSpec.ofChange fnAgreedTimesWrong)

/-- 'laws.FnKeys': WHATEVER THE INPUT: true; the input reads as it did. -/
def fnKeysSpec : ChangeSpec := { name := "fnKeys", fn := fun _ => fun
  | [d] => { results := [.lit (.bool true)], args := [d] }
  | _ => none }
def fnKeysRow : OpenClaim := { program := "ytkdpfbodmfjkkaa", sum := "bc38c031c31c4c231236ddaf451b0703908a28054aad41442728d880ddbfc3ed", func := "loop.example/g00597/laws.FnKeys", spec := "fnKeys", apart := false }
def FnKeysSaid : Prop := fnKeysRow.holds Try.pinned (OpenSpec.ofChange fnKeysSpec)

/-- ITS FALSE NEIGHBOUR: 'it returns false'. Refute it at one input. -/
def fnKeysWrong : ChangeSpec := { name := "fnKeys", fn := fun _ => fun
  | [d] => { results := [.lit (.bool false)], args := [d] }
  | _ => none }
def FnKeysWrongFalsely : Prop := fnKeysRow.holds Try.pinned (OpenSpec.ofChange fnKeysWrong)

/-- 'laws.FnCertificates': WHATEVER THE INPUT: true; the input reads as it did. -/
def fnCertificatesSpec : ChangeSpec := { name := "fnCertificates", fn := fun _ => fun
  | [d] => { results := [.lit (.bool true)], args := [d] }
  | _ => none }
def fnCertificatesRow : OpenClaim := { program := "ytkdpfbodmfjkkaa", sum := "bc38c031c31c4c231236ddaf451b0703908a28054aad41442728d880ddbfc3ed", func := "loop.example/g00597/laws.FnCertificates", spec := "fnCertificates", apart := false }
def FnCertificatesSaid : Prop := fnCertificatesRow.holds Try.pinned (OpenSpec.ofChange fnCertificatesSpec)

/-- ITS FALSE NEIGHBOUR: 'it returns false'. Refute it at one input. -/
def fnCertificatesWrong : ChangeSpec := { name := "fnCertificates", fn := fun _ => fun
  | [d] => { results := [.lit (.bool false)], args := [d] }
  | _ => none }
def FnCertificatesWrongFalsely : Prop := fnCertificatesRow.holds Try.pinned (OpenSpec.ofChange fnCertificatesWrong)

/-- 'laws.FnAnswers': WHATEVER THE INPUT: true; the input reads as it did. -/
def fnAnswersSpec : ChangeSpec := { name := "fnAnswers", fn := fun _ => fun
  | [d] => { results := [.lit (.bool true)], args := [d] }
  | _ => none }
def fnAnswersRow : OpenClaim := { program := "ytkdpfbodmfjkkaa", sum := "bc38c031c31c4c231236ddaf451b0703908a28054aad41442728d880ddbfc3ed", func := "loop.example/g00597/laws.FnAnswers", spec := "fnAnswers", apart := false }
def FnAnswersSaid : Prop := fnAnswersRow.holds Try.pinned (OpenSpec.ofChange fnAnswersSpec)

/-- ITS FALSE NEIGHBOUR: 'it returns false'. Refute it at one input. -/
def fnAnswersWrong : ChangeSpec := { name := "fnAnswers", fn := fun _ => fun
  | [d] => { results := [.lit (.bool false)], args := [d] }
  | _ => none }
def FnAnswersWrongFalsely : Prop := fnAnswersRow.holds Try.pinned (OpenSpec.ofChange fnAnswersWrong)

/-- 'laws.FnExactSignatureOf': WHATEVER THE INPUT: true; the input reads as it did. -/
def fnExactSignatureOfSpec : ChangeSpec := { name := "fnExactSignatureOf", fn := fun _ => fun
  | [d1, d2, d3, d4] => { results := [.lit (.bool true)], args := [d1, d2, d3, d4] }
  | _ => none }
def fnExactSignatureOfRow : OpenClaim := { program := "ytkdpfbodmfjkkaa", sum := "bc38c031c31c4c231236ddaf451b0703908a28054aad41442728d880ddbfc3ed", func := "loop.example/g00597/laws.FnExactSignatureOf", spec := "fnExactSignatureOf", apart := false }
def FnExactSignatureOfSaid : Prop := fnExactSignatureOfRow.holds Try.pinned (OpenSpec.ofChange fnExactSignatureOfSpec)

/-- ITS FALSE NEIGHBOUR: 'it returns false'. Refute it at one input. -/
def fnExactSignatureOfWrong : ChangeSpec := { name := "fnExactSignatureOf", fn := fun _ => fun
  | [d1, d2, d3, d4] => { results := [.lit (.bool false)], args := [d1, d2, d3, d4] }
  | _ => none }
def FnExactSignatureOfWrongFalsely : Prop := fnExactSignatureOfRow.holds Try.pinned (OpenSpec.ofChange fnExactSignatureOfWrong)

/-- 'laws.FnStamps': WHATEVER THE INPUT: true; the input reads as it did. -/
def fnStampsSpec : ChangeSpec := { name := "fnStamps", fn := fun _ => fun
  | [d] => { results := [.lit (.bool true)], args := [d] }
  | _ => none }
def fnStampsRow : OpenClaim := { program := "ytkdpfbodmfjkkaa", sum := "bc38c031c31c4c231236ddaf451b0703908a28054aad41442728d880ddbfc3ed", func := "loop.example/g00597/laws.FnStamps", spec := "fnStamps", apart := false }
def FnStampsSaid : Prop := fnStampsRow.holds Try.pinned (OpenSpec.ofChange fnStampsSpec)

/-- ITS FALSE NEIGHBOUR: 'it returns false'. Refute it at one input. -/
def fnStampsWrong : ChangeSpec := { name := "fnStamps", fn := fun _ => fun
  | [d] => { results := [.lit (.bool false)], args := [d] }
  | _ => none }
def FnStampsWrongFalsely : Prop := fnStampsRow.holds Try.pinned (OpenSpec.ofChange fnStampsWrong)

/-- 'laws.FnSignatures': WHATEVER THE INPUT: true; the input reads as it did. -/
def fnSignaturesSpec : ChangeSpec := { name := "fnSignatures", fn := fun _ => fun
  | [d] => { results := [.lit (.bool true)], args := [d] }
  | _ => none }
def fnSignaturesRow : OpenClaim := { program := "ytkdpfbodmfjkkaa", sum := "bc38c031c31c4c231236ddaf451b0703908a28054aad41442728d880ddbfc3ed", func := "loop.example/g00597/laws.FnSignatures", spec := "fnSignatures", apart := false }
def FnSignaturesSaid : Prop := fnSignaturesRow.holds Try.pinned (OpenSpec.ofChange fnSignaturesSpec)

/-- ITS FALSE NEIGHBOUR: 'it returns false'. Refute it at one input. -/
def fnSignaturesWrong : ChangeSpec := { name := "fnSignatures", fn := fun _ => fun
  | [d] => { results := [.lit (.bool false)], args := [d] }
  | _ => none }
def FnSignaturesWrongFalsely : Prop := fnSignaturesRow.holds Try.pinned (OpenSpec.ofChange fnSignaturesWrong)

/-- 'laws.FnExactNextOwner': WHATEVER THE INPUT: true; the input reads as it did. -/
def fnExactNextOwnerSpec : ChangeSpec := { name := "fnExactNextOwner", fn := fun _ => fun
  | [d1, d2, d3, d4] => { results := [.lit (.bool true)], args := [d1, d2, d3, d4] }
  | _ => none }
def fnExactNextOwnerRow : OpenClaim := { program := "ytkdpfbodmfjkkaa", sum := "bc38c031c31c4c231236ddaf451b0703908a28054aad41442728d880ddbfc3ed", func := "loop.example/g00597/laws.FnExactNextOwner", spec := "fnExactNextOwner", apart := false }
def FnExactNextOwnerSaid : Prop := fnExactNextOwnerRow.holds Try.pinned (OpenSpec.ofChange fnExactNextOwnerSpec)

/-- ITS FALSE NEIGHBOUR: 'it returns false'. Refute it at one input. -/
def fnExactNextOwnerWrong : ChangeSpec := { name := "fnExactNextOwner", fn := fun _ => fun
  | [d1, d2, d3, d4] => { results := [.lit (.bool false)], args := [d1, d2, d3, d4] }
  | _ => none }
def FnExactNextOwnerWrongFalsely : Prop := fnExactNextOwnerRow.holds Try.pinned (OpenSpec.ofChange fnExactNextOwnerWrong)

/-- 'laws.FnMandates': WHATEVER THE INPUT: true; the input reads as it did. -/
def fnMandatesSpec : ChangeSpec := { name := "fnMandates", fn := fun _ => fun
  | [d] => { results := [.lit (.bool true)], args := [d] }
  | _ => none }
def fnMandatesRow : OpenClaim := { program := "ytkdpfbodmfjkkaa", sum := "bc38c031c31c4c231236ddaf451b0703908a28054aad41442728d880ddbfc3ed", func := "loop.example/g00597/laws.FnMandates", spec := "fnMandates", apart := false }
def FnMandatesSaid : Prop := fnMandatesRow.holds Try.pinned (OpenSpec.ofChange fnMandatesSpec)

/-- ITS FALSE NEIGHBOUR: 'it returns false'. Refute it at one input. -/
def fnMandatesWrong : ChangeSpec := { name := "fnMandates", fn := fun _ => fun
  | [d] => { results := [.lit (.bool false)], args := [d] }
  | _ => none }
def FnMandatesWrongFalsely : Prop := fnMandatesRow.holds Try.pinned (OpenSpec.ofChange fnMandatesWrong)

/-- 'laws.FnExactBeforeFor': WHATEVER THE INPUT: true; the input reads as it did. -/
def fnExactBeforeForSpec : ChangeSpec := { name := "fnExactBeforeFor", fn := fun _ => fun
  | [d1, d2, d3, d4, d5] => { results := [.lit (.bool true)], args := [d1, d2, d3, d4, d5] }
  | _ => none }
def fnExactBeforeForRow : OpenClaim := { program := "ytkdpfbodmfjkkaa", sum := "bc38c031c31c4c231236ddaf451b0703908a28054aad41442728d880ddbfc3ed", func := "loop.example/g00597/laws.FnExactBeforeFor", spec := "fnExactBeforeFor", apart := false }
def FnExactBeforeForSaid : Prop := fnExactBeforeForRow.holds Try.pinned (OpenSpec.ofChange fnExactBeforeForSpec)

/-- ITS FALSE NEIGHBOUR: 'it returns false'. Refute it at one input. -/
def fnExactBeforeForWrong : ChangeSpec := { name := "fnExactBeforeFor", fn := fun _ => fun
  | [d1, d2, d3, d4, d5] => { results := [.lit (.bool false)], args := [d1, d2, d3, d4, d5] }
  | _ => none }
def FnExactBeforeForWrongFalsely : Prop := fnExactBeforeForRow.holds Try.pinned (OpenSpec.ofChange fnExactBeforeForWrong)

/-- 'laws.FnTogether': WHATEVER THE INPUT: true; the input reads as it did. -/
def fnTogetherSpec : ChangeSpec := { name := "fnTogether", fn := fun _ => fun
  | [d] => { results := [.lit (.bool true)], args := [d] }
  | _ => none }
def fnTogetherRow : OpenClaim := { program := "ytkdpfbodmfjkkaa", sum := "bc38c031c31c4c231236ddaf451b0703908a28054aad41442728d880ddbfc3ed", func := "loop.example/g00597/laws.FnTogether", spec := "fnTogether", apart := false }
def FnTogetherSaid : Prop := fnTogetherRow.holds Try.pinned (OpenSpec.ofChange fnTogetherSpec)

/-- ITS FALSE NEIGHBOUR: 'it returns false'. Refute it at one input. -/
def fnTogetherWrong : ChangeSpec := { name := "fnTogether", fn := fun _ => fun
  | [d] => { results := [.lit (.bool false)], args := [d] }
  | _ => none }
def FnTogetherWrongFalsely : Prop := fnTogetherRow.holds Try.pinned (OpenSpec.ofChange fnTogetherWrong)

/- THE SECOND FORM. 'bulk': how many values and letters a reading holds, each counted each time it is reached (what is shared counts as often as it is met; a slice's spare places count too). A statement '..UptoSaid' is the law's where the arguments, and the package variables that the reading takes, are together of bulk at most 1048576: NARROWER than '..Said'. Prove '..Said' where nothing that the law and all that it calls make is longer than what came in: it says more and counts as full. Else prove '..UptoSaid'. A law counts once. -/
mutual
def uptoBulk {H : Type} : DataW H → Nat
  | .lit (.string bytes) => bytes.length + 1
  | .lit _ => 1
  | .nil => 1
  | .ptr d => uptoBulk d + 1
  | .slice elems spare => uptoBulkAll elems + uptoBulkAll spare + 1
  | .agg parts => uptoBulkAll parts + 1
  | .iface _ d => uptoBulk d + 1
  | .map entries => uptoBulkEntries entries + 1
  | .held _ => 1
def uptoBulkAll {H : Type} : List (DataW H) → Nat
  | [] => 0
  | d :: r => uptoBulk d + uptoBulkAll r
def uptoBulkEntries {H : Type} : List (Lit × DataW H) → Nat
  | [] => 0
  | x :: r => uptoBulkEntry x + uptoBulkEntries r
def uptoBulkEntry {H : Type} : Lit × DataW H → Nat
  | (.string bytes, d) => bytes.length + uptoBulk d + 1
  | (_, d) => uptoBulk d + 1
 end
def uptoSmall : (H : Type) → List (DataW H) → Bool := fun _ ds => decide (uptoBulkAll ds ≤ 1048576)
def OpenSpec.upto (s : _root_.Go.ChangeSpec) : _root_.Go.OpenSpec := { _root_.Go.OpenSpec.ofChange s with cond := some uptoSmall }

/-- 'laws.FnExactMeetsRule', WHERE WHAT IT READS IS OF BULK AT MOST 1048576: true; the input reads as it did. -/
def fnExactMeetsRuleUptoRow : OpenClaim := { program := "ytkdpfbodmfjkkaa", sum := "bc38c031c31c4c231236ddaf451b0703908a28054aad41442728d880ddbfc3ed", func := "loop.example/g00597/laws.FnExactMeetsRule", spec := "fnExactMeetsRule", apart := false, narrowed := true }
def FnExactMeetsRuleUptoSaid : Prop := fnExactMeetsRuleUptoRow.holds Try.pinned (OpenSpec.upto fnExactMeetsRuleSpec)

/-- 'laws.FnAgreedTimes', WHERE WHAT IT READS IS OF BULK AT MOST 1048576: true; the input reads as it did. -/
def fnAgreedTimesUptoRow : OpenClaim := { program := "ytkdpfbodmfjkkaa", sum := "bc38c031c31c4c231236ddaf451b0703908a28054aad41442728d880ddbfc3ed", func := "loop.example/g00597/laws.FnAgreedTimes", spec := "fnAgreedTimes", apart := false, narrowed := true }
def FnAgreedTimesUptoSaid : Prop := fnAgreedTimesUptoRow.holds Try.pinned (OpenSpec.upto fnAgreedTimesSpec)

/-- 'laws.FnKeys', WHERE WHAT IT READS IS OF BULK AT MOST 1048576: true; the input reads as it did. -/
def fnKeysUptoRow : OpenClaim := { program := "ytkdpfbodmfjkkaa", sum := "bc38c031c31c4c231236ddaf451b0703908a28054aad41442728d880ddbfc3ed", func := "loop.example/g00597/laws.FnKeys", spec := "fnKeys", apart := false, narrowed := true }
def FnKeysUptoSaid : Prop := fnKeysUptoRow.holds Try.pinned (OpenSpec.upto fnKeysSpec)

/-- 'laws.FnCertificates', WHERE WHAT IT READS IS OF BULK AT MOST 1048576: true; the input reads as it did. -/
def fnCertificatesUptoRow : OpenClaim := { program := "ytkdpfbodmfjkkaa", sum := "bc38c031c31c4c231236ddaf451b0703908a28054aad41442728d880ddbfc3ed", func := "loop.example/g00597/laws.FnCertificates", spec := "fnCertificates", apart := false, narrowed := true }
def FnCertificatesUptoSaid : Prop := fnCertificatesUptoRow.holds Try.pinned (OpenSpec.upto fnCertificatesSpec)

/-- 'laws.FnAnswers', WHERE WHAT IT READS IS OF BULK AT MOST 1048576: true; the input reads as it did. -/
def fnAnswersUptoRow : OpenClaim := { program := "ytkdpfbodmfjkkaa", sum := "bc38c031c31c4c231236ddaf451b0703908a28054aad41442728d880ddbfc3ed", func := "loop.example/g00597/laws.FnAnswers", spec := "fnAnswers", apart := false, narrowed := true }
def FnAnswersUptoSaid : Prop := fnAnswersUptoRow.holds Try.pinned (OpenSpec.upto fnAnswersSpec)

/-- 'laws.FnExactSignatureOf', WHERE WHAT IT READS IS OF BULK AT MOST 1048576: true; the input reads as it did. -/
def fnExactSignatureOfUptoRow : OpenClaim := { program := "ytkdpfbodmfjkkaa", sum := "bc38c031c31c4c231236ddaf451b0703908a28054aad41442728d880ddbfc3ed", func := "loop.example/g00597/laws.FnExactSignatureOf", spec := "fnExactSignatureOf", apart := false, narrowed := true }
def FnExactSignatureOfUptoSaid : Prop := fnExactSignatureOfUptoRow.holds Try.pinned (OpenSpec.upto fnExactSignatureOfSpec)

/-- 'laws.FnStamps', WHERE WHAT IT READS IS OF BULK AT MOST 1048576: true; the input reads as it did. -/
def fnStampsUptoRow : OpenClaim := { program := "ytkdpfbodmfjkkaa", sum := "bc38c031c31c4c231236ddaf451b0703908a28054aad41442728d880ddbfc3ed", func := "loop.example/g00597/laws.FnStamps", spec := "fnStamps", apart := false, narrowed := true }
def FnStampsUptoSaid : Prop := fnStampsUptoRow.holds Try.pinned (OpenSpec.upto fnStampsSpec)

/-- 'laws.FnSignatures', WHERE WHAT IT READS IS OF BULK AT MOST 1048576: true; the input reads as it did. -/
def fnSignaturesUptoRow : OpenClaim := { program := "ytkdpfbodmfjkkaa", sum := "bc38c031c31c4c231236ddaf451b0703908a28054aad41442728d880ddbfc3ed", func := "loop.example/g00597/laws.FnSignatures", spec := "fnSignatures", apart := false, narrowed := true }
def FnSignaturesUptoSaid : Prop := fnSignaturesUptoRow.holds Try.pinned (OpenSpec.upto fnSignaturesSpec)

/-- 'laws.FnExactNextOwner', WHERE WHAT IT READS IS OF BULK AT MOST 1048576: true; the input reads as it did. -/
def fnExactNextOwnerUptoRow : OpenClaim := { program := "ytkdpfbodmfjkkaa", sum := "bc38c031c31c4c231236ddaf451b0703908a28054aad41442728d880ddbfc3ed", func := "loop.example/g00597/laws.FnExactNextOwner", spec := "fnExactNextOwner", apart := false, narrowed := true }
def FnExactNextOwnerUptoSaid : Prop := fnExactNextOwnerUptoRow.holds Try.pinned (OpenSpec.upto fnExactNextOwnerSpec)

/-- 'laws.FnMandates', WHERE WHAT IT READS IS OF BULK AT MOST 1048576: true; the input reads as it did. -/
def fnMandatesUptoRow : OpenClaim := { program := "ytkdpfbodmfjkkaa", sum := "bc38c031c31c4c231236ddaf451b0703908a28054aad41442728d880ddbfc3ed", func := "loop.example/g00597/laws.FnMandates", spec := "fnMandates", apart := false, narrowed := true }
def FnMandatesUptoSaid : Prop := fnMandatesUptoRow.holds Try.pinned (OpenSpec.upto fnMandatesSpec)

/-- 'laws.FnExactBeforeFor', WHERE WHAT IT READS IS OF BULK AT MOST 1048576: true; the input reads as it did. -/
def fnExactBeforeForUptoRow : OpenClaim := { program := "ytkdpfbodmfjkkaa", sum := "bc38c031c31c4c231236ddaf451b0703908a28054aad41442728d880ddbfc3ed", func := "loop.example/g00597/laws.FnExactBeforeFor", spec := "fnExactBeforeFor", apart := false, narrowed := true }
def FnExactBeforeForUptoSaid : Prop := fnExactBeforeForUptoRow.holds Try.pinned (OpenSpec.upto fnExactBeforeForSpec)

/-- 'laws.FnTogether', WHERE WHAT IT READS IS OF BULK AT MOST 1048576: true; the input reads as it did. -/
def fnTogetherUptoRow : OpenClaim := { program := "ytkdpfbodmfjkkaa", sum := "bc38c031c31c4c231236ddaf451b0703908a28054aad41442728d880ddbfc3ed", func := "loop.example/g00597/laws.FnTogether", spec := "fnTogether", apart := false, narrowed := true }
def FnTogetherUptoSaid : Prop := fnTogetherUptoRow.holds Try.pinned (OpenSpec.upto fnTogetherSpec)

end Rows
end Go.Proofs.Ytkdpfbodmfjkkaa
