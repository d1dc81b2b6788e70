/-
  No cell of these rows narrows 'for every input' (looked for: loops, veiled, ifaces, maps, wideKeys, modest, calm, conditions, laid).
  DERIVED. THE GIVEN ROWS OF THIS SEAT. 12 by the template 'for every input the law returns true; each argument reads behind the call as it read before'; 0 by the template 'total and deterministic' (their statements: YtcfealjfanoegaaTotals.lean).
  GIVEN WITH THE SEED: the statements are not yours to turn. If you find one false, say at which input.
  Laid BY PROGRAM, IN A SANDBOX (cutbox-rows.mjs): the forced cells as the released guide's own fill.sh prints them over the translation cc6d57274639280d… (all of the seat's roots in one cut). By AI agents, Wed Nov 11 2026. No macro, syntax, notation, axiom, sorry.
-/
import Derived.Test.YtcfealjfanoegaaChecked
import GoSem.Claim
import GoSem.ClaimJoined
import GoSem.ClaimMapViews
import Derived.JoinedTies
import Derived.KernelRfl
namespace Go.Proofs.Ytcfealjfanoegaa
/- THE CELL 'sum', in the pinned program and in every row, IS THE sha256 OF THE DUMP (.gsa) THAT YtcfealjfanoegaaProg.lean LOADS. Nothing in Lean hashes anything: it is a label: what it is worth is what the hold of that sum in a sandbox is worth. -/
noncomputable def Try.pinned : Pinned := { name := "ytcfealjfanoegaa", sum := "cc6d57274639280d843ce0eb4639bdce1550b8a61758676ab3a218253c5b9456", checked := Try.checked }
namespace Rows
def none {H : Type} : Left H := { results := [], args := [] }

/-- 'laws.FnExactSignatureDigest': WHATEVER THE INPUT: true; the input reads as it did. -/
def fnExactSignatureDigestSpec : ChangeSpec := { name := "fnExactSignatureDigest", fn := fun _ => fun
  | [d1, d2] => { results := [.lit (.bool true)], args := [d1, d2] }
  | _ => none }
def fnExactSignatureDigestRow : OpenClaim := { program := "ytcfealjfanoegaa", sum := "cc6d57274639280d843ce0eb4639bdce1550b8a61758676ab3a218253c5b9456", func := "loop.example/g00597/laws.FnExactSignatureDigest", spec := "fnExactSignatureDigest", apart := false }
def FnExactSignatureDigestSaid : Prop := fnExactSignatureDigestRow.holds Try.pinned (OpenSpec.ofChange fnExactSignatureDigestSpec)

/-- ITS FALSE NEIGHBOUR: 'it returns false'. Refute it at one input. -/
def fnExactSignatureDigestWrong : ChangeSpec := { name := "fnExactSignatureDigest", fn := fun _ => fun
  | [d1, d2] => { results := [.lit (.bool false)], args := [d1, d2] }
  | _ => none }
def FnExactSignatureDigestWrongFalsely : Prop := fnExactSignatureDigestRow.holds Try.pinned (OpenSpec.ofChange fnExactSignatureDigestWrong)

/-- 'laws.FnExactMandateSpans': WHATEVER THE INPUT: true; the input reads as it did. -/
def fnExactMandateSpansSpec : ChangeSpec := { name := "fnExactMandateSpans", fn := fun _ => fun
  | [d1, d2, d3, d4] => { results := [.lit (.bool true)], args := [d1, d2, d3, d4] }
  | _ => none }
def fnExactMandateSpansRow : OpenClaim := { program := "ytcfealjfanoegaa", sum := "cc6d57274639280d843ce0eb4639bdce1550b8a61758676ab3a218253c5b9456", func := "loop.example/g00597/laws.FnExactMandateSpans", spec := "fnExactMandateSpans", apart := false }
def FnExactMandateSpansSaid : Prop := fnExactMandateSpansRow.holds Try.pinned (OpenSpec.ofChange fnExactMandateSpansSpec)

/-- ITS FALSE NEIGHBOUR: 'it returns false'. Refute it at one input. -/
def fnExactMandateSpansWrong : ChangeSpec := { name := "fnExactMandateSpans", fn := fun _ => fun
  | [d1, d2, d3, d4] => { results := [.lit (.bool false)], args := [d1, d2, d3, d4] }
  | _ => none }
def FnExactMandateSpansWrongFalsely : Prop := fnExactMandateSpansRow.holds Try.pinned (OpenSpec.ofChange fnExactMandateSpansWrong)

/-- 'laws.FnExactStampsDigest': WHATEVER THE INPUT: true; the input reads as it did. -/
def fnExactStampsDigestSpec : ChangeSpec := { name := "fnExactStampsDigest", fn := fun _ => fun
  | [d1, d2] => { results := [.lit (.bool true)], args := [d1, d2] }
  | _ => none }
def fnExactStampsDigestRow : OpenClaim := { program := "ytcfealjfanoegaa", sum := "cc6d57274639280d843ce0eb4639bdce1550b8a61758676ab3a218253c5b9456", func := "loop.example/g00597/laws.FnExactStampsDigest", spec := "fnExactStampsDigest", apart := false }
def FnExactStampsDigestSaid : Prop := fnExactStampsDigestRow.holds Try.pinned (OpenSpec.ofChange fnExactStampsDigestSpec)

/-- ITS FALSE NEIGHBOUR: 'it returns false'. Refute it at one input. -/
def fnExactStampsDigestWrong : ChangeSpec := { name := "fnExactStampsDigest", fn := fun _ => fun
  | [d1, d2] => { results := [.lit (.bool false)], args := [d1, d2] }
  | _ => none }
def FnExactStampsDigestWrongFalsely : Prop := fnExactStampsDigestRow.holds Try.pinned (OpenSpec.ofChange fnExactStampsDigestWrong)

/-- 'laws.FnExactAgreedSpan': WHATEVER THE INPUT: true; the input reads as it did. -/
def fnExactAgreedSpanSpec : ChangeSpec := { name := "fnExactAgreedSpan", fn := fun _ => fun
  | [d1, d2] => { results := [.lit (.bool true)], args := [d1, d2] }
  | _ => none }
def fnExactAgreedSpanRow : OpenClaim := { program := "ytcfealjfanoegaa", sum := "cc6d57274639280d843ce0eb4639bdce1550b8a61758676ab3a218253c5b9456", func := "loop.example/g00597/laws.FnExactAgreedSpan", spec := "fnExactAgreedSpan", apart := false }
def FnExactAgreedSpanSaid : Prop := fnExactAgreedSpanRow.holds Try.pinned (OpenSpec.ofChange fnExactAgreedSpanSpec)

/-- ITS FALSE NEIGHBOUR: 'it returns false'. Refute it at one input. -/
def fnExactAgreedSpanWrong : ChangeSpec := { name := "fnExactAgreedSpan", fn := fun _ => fun
  | [d1, d2] => { results := [.lit (.bool false)], args := [d1, d2] }
  | _ => none }
def FnExactAgreedSpanWrongFalsely : Prop := fnExactAgreedSpanRow.holds Try.pinned (OpenSpec.ofChange fnExactAgreedSpanWrong)

/-- 'laws.FnExactKeysOf': WHATEVER THE INPUT: true; the input reads as it did. -/
def fnExactKeysOfSpec : ChangeSpec := { name := "fnExactKeysOf", fn := fun _ => fun
  | [d1, d2] => { results := [.lit (.bool true)], args := [d1, d2] }
  | _ => none }
def fnExactKeysOfRow : OpenClaim := { program := "ytcfealjfanoegaa", sum := "cc6d57274639280d843ce0eb4639bdce1550b8a61758676ab3a218253c5b9456", func := "loop.example/g00597/laws.FnExactKeysOf", spec := "fnExactKeysOf", apart := false }
def FnExactKeysOfSaid : Prop := fnExactKeysOfRow.holds Try.pinned (OpenSpec.ofChange fnExactKeysOfSpec)

/-- ITS FALSE NEIGHBOUR: 'it returns false'. Refute it at one input. -/
def fnExactKeysOfWrong : ChangeSpec := { name := "fnExactKeysOf", fn := fun _ => fun
  | [d1, d2] => { results := [.lit (.bool false)], args := [d1, d2] }
  | _ => none }
def FnExactKeysOfWrongFalsely : Prop := fnExactKeysOfRow.holds Try.pinned (OpenSpec.ofChange fnExactKeysOfWrong)

/-- 'laws.FnExactStampSpan': WHATEVER THE INPUT: true; the input reads as it did. -/
def fnExactStampSpanSpec : ChangeSpec := { name := "fnExactStampSpan", fn := fun _ => fun
  | [d1, d2] => { results := [.lit (.bool true)], args := [d1, d2] }
  | _ => none }
def fnExactStampSpanRow : OpenClaim := { program := "ytcfealjfanoegaa", sum := "cc6d57274639280d843ce0eb4639bdce1550b8a61758676ab3a218253c5b9456", func := "loop.example/g00597/laws.FnExactStampSpan", spec := "fnExactStampSpan", apart := false }
def FnExactStampSpanSaid : Prop := fnExactStampSpanRow.holds Try.pinned (OpenSpec.ofChange fnExactStampSpanSpec)

/-- ITS FALSE NEIGHBOUR: 'it returns false'. Refute it at one input. -/
def fnExactStampSpanWrong : ChangeSpec := { name := "fnExactStampSpan", fn := fun _ => fun
  | [d1, d2] => { results := [.lit (.bool false)], args := [d1, d2] }
  | _ => none }
def FnExactStampSpanWrongFalsely : Prop := fnExactStampSpanRow.holds Try.pinned (OpenSpec.ofChange fnExactStampSpanWrong)

/-- 'laws.FnExactIsAgreed': WHATEVER THE INPUT: true; the input reads as it did. -/
def fnExactIsAgreedSpec : ChangeSpec := { name := "fnExactIsAgreed", fn := fun _ => fun
  | [d1, d2] => { results := [.lit (.bool true)], args := [d1, d2] }
  | _ => none }
def fnExactIsAgreedRow : OpenClaim := { program := "ytcfealjfanoegaa", sum := "cc6d57274639280d843ce0eb4639bdce1550b8a61758676ab3a218253c5b9456", func := "loop.example/g00597/laws.FnExactIsAgreed", spec := "fnExactIsAgreed", apart := false }
def FnExactIsAgreedSaid : Prop := fnExactIsAgreedRow.holds Try.pinned (OpenSpec.ofChange fnExactIsAgreedSpec)

/-- ITS FALSE NEIGHBOUR: 'it returns false'. Refute it at one input. -/
def fnExactIsAgreedWrong : ChangeSpec := { name := "fnExactIsAgreed", fn := fun _ => fun
  | [d1, d2] => { results := [.lit (.bool false)], args := [d1, d2] }
  | _ => none }
def FnExactIsAgreedWrongFalsely : Prop := fnExactIsAgreedRow.holds Try.pinned (OpenSpec.ofChange fnExactIsAgreedWrong)

/-- 'laws.FnExactDisagreeingWith': WHATEVER THE INPUT: true; the input reads as it did. -/
def fnExactDisagreeingWithSpec : ChangeSpec := { name := "fnExactDisagreeingWith", fn := fun _ => fun
  | [d1, d2] => { results := [.lit (.bool true)], args := [d1, d2] }
  | _ => none }
def fnExactDisagreeingWithRow : OpenClaim := { program := "ytcfealjfanoegaa", sum := "cc6d57274639280d843ce0eb4639bdce1550b8a61758676ab3a218253c5b9456", func := "loop.example/g00597/laws.FnExactDisagreeingWith", spec := "fnExactDisagreeingWith", apart := false }
def FnExactDisagreeingWithSaid : Prop := fnExactDisagreeingWithRow.holds Try.pinned (OpenSpec.ofChange fnExactDisagreeingWithSpec)

/-- ITS FALSE NEIGHBOUR: 'it returns false'. Refute it at one input. -/
def fnExactDisagreeingWithWrong : ChangeSpec := { name := "fnExactDisagreeingWith", fn := fun _ => fun
  | [d1, d2] => { results := [.lit (.bool false)], args := [d1, d2] }
  | _ => none }
def FnExactDisagreeingWithWrongFalsely : Prop := fnExactDisagreeingWithRow.holds Try.pinned (OpenSpec.ofChange fnExactDisagreeingWithWrong)

/-- 'laws.FnExactCheckStamp': WHATEVER THE INPUT: true; the input reads as it did. -/
def fnExactCheckStampSpec : ChangeSpec := { name := "fnExactCheckStamp", fn := fun _ => fun
  | [d1, d2, d3] => { results := [.lit (.bool true)], args := [d1, d2, d3] }
  | _ => none }
def fnExactCheckStampRow : OpenClaim := { program := "ytcfealjfanoegaa", sum := "cc6d57274639280d843ce0eb4639bdce1550b8a61758676ab3a218253c5b9456", func := "loop.example/g00597/laws.FnExactCheckStamp", spec := "fnExactCheckStamp", apart := false }
def FnExactCheckStampSaid : Prop := fnExactCheckStampRow.holds Try.pinned (OpenSpec.ofChange fnExactCheckStampSpec)

/-- ITS FALSE NEIGHBOUR: 'it returns false'. Refute it at one input. -/
def fnExactCheckStampWrong : ChangeSpec := { name := "fnExactCheckStamp", fn := fun _ => fun
  | [d1, d2, d3] => { results := [.lit (.bool false)], args := [d1, d2, d3] }
  | _ => none }
def FnExactCheckStampWrongFalsely : Prop := fnExactCheckStampRow.holds Try.pinned (OpenSpec.ofChange fnExactCheckStampWrong)

/-- 'laws.FnExactMakeStamp': WHATEVER THE INPUT: true; the input reads as it did. -/
def fnExactMakeStampSpec : ChangeSpec := { name := "fnExactMakeStamp", fn := fun _ => fun
  | [d1, d2, d3] => { results := [.lit (.bool true)], args := [d1, d2, d3] }
  | _ => none }
def fnExactMakeStampRow : OpenClaim := { program := "ytcfealjfanoegaa", sum := "cc6d57274639280d843ce0eb4639bdce1550b8a61758676ab3a218253c5b9456", func := "loop.example/g00597/laws.FnExactMakeStamp", spec := "fnExactMakeStamp", apart := false }
def FnExactMakeStampSaid : Prop := fnExactMakeStampRow.holds Try.pinned (OpenSpec.ofChange fnExactMakeStampSpec)

/-- ITS FALSE NEIGHBOUR: 'it returns false'. Refute it at one input. -/
def fnExactMakeStampWrong : ChangeSpec := { name := "fnExactMakeStamp", fn := fun _ => fun
  | [d1, d2, d3] => { results := [.lit (.bool false)], args := [d1, d2, d3] }
  | _ => none }
def FnExactMakeStampWrongFalsely : Prop := fnExactMakeStampRow.holds Try.pinned (OpenSpec.ofChange fnExactMakeStampWrong)

/-- 'laws.FnExactMaySignFor': WHATEVER THE INPUT: true; the input reads as it did. -/
def fnExactMaySignForSpec : ChangeSpec := { name := "fnExactMaySignFor", fn := fun _ => fun
  | [d1, d2, d3, d4, d5] => { results := [.lit (.bool true)], args := [d1, d2, d3, d4, d5] }
  | _ => none }
def fnExactMaySignForRow : OpenClaim := { program := "ytcfealjfanoegaa", sum := "cc6d57274639280d843ce0eb4639bdce1550b8a61758676ab3a218253c5b9456", func := "loop.example/g00597/laws.FnExactMaySignFor", spec := "fnExactMaySignFor", apart := false }
def FnExactMaySignForSaid : Prop := fnExactMaySignForRow.holds Try.pinned (OpenSpec.ofChange fnExactMaySignForSpec)

/-- ITS FALSE NEIGHBOUR: 'it returns false'. Refute it at one input. -/
def fnExactMaySignForWrong : ChangeSpec := { name := "fnExactMaySignFor", fn := fun _ => fun
  | [d1, d2, d3, d4, d5] => { results := [.lit (.bool false)], args := [d1, d2, d3, d4, d5] }
  | _ => none }
def FnExactMaySignForWrongFalsely : Prop := fnExactMaySignForRow.holds Try.pinned (OpenSpec.ofChange fnExactMaySignForWrong)

/-- 'laws.FnExactSignDocument': WHATEVER THE INPUT: true; the input reads as it did. -/
def fnExactSignDocumentSpec : ChangeSpec := { name := "fnExactSignDocument", fn := fun _ => fun
  | [d1, d2, d3, d4, d5, d6] => { results := [.lit (.bool true)], args := [d1, d2, d3, d4, d5, d6] }
  | _ => none }
def fnExactSignDocumentRow : OpenClaim := { program := "ytcfealjfanoegaa", sum := "cc6d57274639280d843ce0eb4639bdce1550b8a61758676ab3a218253c5b9456", func := "loop.example/g00597/laws.FnExactSignDocument", spec := "fnExactSignDocument", apart := false }
def FnExactSignDocumentSaid : Prop := fnExactSignDocumentRow.holds Try.pinned (OpenSpec.ofChange fnExactSignDocumentSpec)

/-- ITS FALSE NEIGHBOUR: 'it returns false'. Refute it at one input. -/
def fnExactSignDocumentWrong : ChangeSpec := { name := "fnExactSignDocument", fn := fun _ => fun
  | [d1, d2, d3, d4, d5, d6] => { results := [.lit (.bool false)], args := [d1, d2, d3, d4, d5, d6] }
  | _ => none }
def FnExactSignDocumentWrongFalsely : Prop := fnExactSignDocumentRow.holds Try.pinned (OpenSpec.ofChange fnExactSignDocumentWrong)

/- THE SECOND FORM. 'bulk': how many values and letters a reading holds, each counted each time it is reached (what is shared counts as often as it is met; a slice's spare places count too). A statement '..UptoSaid' is the law's where the arguments, and the package variables that the reading takes, are together of bulk at most 1048576: NARROWER than '..Said'. Prove '..Said' where nothing that the law and all that it calls make is longer than what came in: it says more and counts as full. Else prove '..UptoSaid'. A law counts once. -/
mutual
def uptoBulk {H : Type} : DataW H → Nat
  | .lit (.string bytes) => bytes.length + 1
  | .lit _ => 1
  | .nil => 1
  | .ptr d => uptoBulk d + 1
  | .slice elems spare => uptoBulkAll elems + uptoBulkAll spare + 1
  | .agg parts => uptoBulkAll parts + 1
  | .iface _ d => uptoBulk d + 1
  | .map entries => uptoBulkEntries entries + 1
  | .held _ => 1
def uptoBulkAll {H : Type} : List (DataW H) → Nat
  | [] => 0
  | d :: r => uptoBulk d + uptoBulkAll r
def uptoBulkEntries {H : Type} : List (Lit × DataW H) → Nat
  | [] => 0
  | x :: r => uptoBulkEntry x + uptoBulkEntries r
def uptoBulkEntry {H : Type} : Lit × DataW H → Nat
  | (.string bytes, d) => bytes.length + uptoBulk d + 1
  | (_, d) => uptoBulk d + 1
 end
def uptoSmall : (H : Type) → List (DataW H) → Bool := fun _ ds => decide (uptoBulkAll ds ≤ 1048576)
def OpenSpec.upto (s : _root_.Go.ChangeSpec) : _root_.Go.OpenSpec := { _root_.Go.OpenSpec.ofChange s with cond := some uptoSmall }

/-- 'laws.FnExactSignatureDigest', WHERE WHAT IT READS IS OF BULK AT MOST 1048576: true; the input reads as it did. -/
def fnExactSignatureDigestUptoRow : OpenClaim := { program := "ytcfealjfanoegaa", sum := "cc6d57274639280d843ce0eb4639bdce1550b8a61758676ab3a218253c5b9456", func := "loop.example/g00597/laws.FnExactSignatureDigest", spec := "fnExactSignatureDigest", apart := false, narrowed := true }
def FnExactSignatureDigestUptoSaid : Prop := fnExactSignatureDigestUptoRow.holds Try.pinned (OpenSpec.upto fnExactSignatureDigestSpec)

/-- 'laws.FnExactMandateSpans', WHERE WHAT IT READS IS OF BULK AT MOST 1048576: true; the input reads as it did. -/
def fnExactMandateSpansUptoRow : OpenClaim := { program := "ytcfealjfanoegaa", sum := "cc6d57274639280d843ce0eb4639bdce1550b8a61758676ab3a218253c5b9456", func := "loop.example/g00597/laws.FnExactMandateSpans", spec := "fnExactMandateSpans", apart := false, narrowed := true }
def FnExactMandateSpansUptoSaid : Prop := fnExactMandateSpansUptoRow.holds Try.pinned (OpenSpec.upto fnExactMandateSpansSpec)

/-- 'laws.FnExactStampsDigest', WHERE WHAT IT READS IS OF BULK AT MOST 1048576: true; the input reads as it did. -/
def fnExactStampsDigestUptoRow : OpenClaim := { program := "ytcfealjfanoegaa", sum := "cc6d57274639280d843ce0eb4639bdce1550b8a61758676ab3a218253c5b9456", func := "loop.example/g00597/laws.FnExactStampsDigest", spec := "fnExactStampsDigest", apart := false, narrowed := true }
def FnExactStampsDigestUptoSaid : Prop := fnExactStampsDigestUptoRow.holds Try.pinned (OpenSpec.upto fnExactStampsDigestSpec)

/-- 'laws.FnExactAgreedSpan', WHERE WHAT IT READS IS OF BULK AT MOST 1048576: true; the input reads as it did. -/
def fnExactAgreedSpanUptoRow : OpenClaim := { program := "ytcfealjfanoegaa", sum := "cc6d57274639280d843ce0eb4639bdce1550b8a61758676ab3a218253c5b9456", func := "loop.example/g00597/laws.FnExactAgreedSpan", spec := "fnExactAgreedSpan", apart := false, narrowed := true }
def FnExactAgreedSpanUptoSaid : Prop := fnExactAgreedSpanUptoRow.holds Try.pinned (OpenSpec.upto fnExactAgreedSpanSpec)

/-- 'laws.FnExactKeysOf', WHERE WHAT IT READS IS OF BULK AT MOST 1048576: true; the input reads as it did. -/
def fnExactKeysOfUptoRow : OpenClaim := { program := "ytcfealjfanoegaa", sum := "cc6d57274639280d843ce0eb4639bdce1550b8a61758676ab3a218253c5b9456", func := "loop.example/g00597/laws.FnExactKeysOf", spec := "fnExactKeysOf", apart := false, narrowed := true }
def FnExactKeysOfUptoSaid : Prop := fnExactKeysOfUptoRow.holds Try.pinned (OpenSpec.upto fnExactKeysOfSpec)

/-- 'laws.FnExactStampSpan', WHERE WHAT IT READS IS OF BULK AT MOST 1048576: true; the input reads as it did. -/
def fnExactStampSpanUptoRow : OpenClaim := { program := "ytcfealjfanoegaa", sum := "cc6d57274639280d843ce0eb4639bdce1550b8a61758676ab3a218253c5b9456", func := "loop.example/g00597/laws.FnExactStampSpan", spec := "fnExactStampSpan", apart := false, narrowed := true }
def FnExactStampSpanUptoSaid : Prop := fnExactStampSpanUptoRow.holds Try.pinned (OpenSpec.upto fnExactStampSpanSpec)

/-- 'laws.FnExactIsAgreed', WHERE WHAT IT READS IS OF BULK AT MOST 1048576: true; the input reads as it did. -/
def fnExactIsAgreedUptoRow : OpenClaim := { program := "ytcfealjfanoegaa", sum := "cc6d57274639280d843ce0eb4639bdce1550b8a61758676ab3a218253c5b9456", func := "loop.example/g00597/laws.FnExactIsAgreed", spec := "fnExactIsAgreed", apart := false, narrowed := true }
def FnExactIsAgreedUptoSaid : Prop := fnExactIsAgreedUptoRow.holds Try.pinned (OpenSpec.upto fnExactIsAgreedSpec)

/-- 'laws.FnExactDisagreeingWith', WHERE WHAT IT READS IS OF BULK AT MOST 1048576: true; the input reads as it did. -/
def fnExactDisagreeingWithUptoRow : OpenClaim := { program := "ytcfealjfanoegaa", sum := "cc6d57274639280d843ce0eb4639bdce1550b8a61758676ab3a218253c5b9456", func := "loop.example/g00597/laws.FnExactDisagreeingWith", spec := "fnExactDisagreeingWith", apart := false, narrowed := true }
def FnExactDisagreeingWithUptoSaid : Prop := fnExactDisagreeingWithUptoRow.holds Try.pinned (OpenSpec.upto fnExactDisagreeingWithSpec)

/-- 'laws.FnExactCheckStamp', WHERE WHAT IT READS IS OF BULK AT MOST 1048576: true; the input reads as it did. -/
def fnExactCheckStampUptoRow : OpenClaim := { program := "ytcfealjfanoegaa", sum := "cc6d57274639280d843ce0eb4639bdce1550b8a61758676ab3a218253c5b9456", func := "loop.example/g00597/laws.FnExactCheckStamp", spec := "fnExactCheckStamp", apart := false, narrowed := true }
def FnExactCheckStampUptoSaid : Prop := fnExactCheckStampUptoRow.holds Try.pinned (OpenSpec.upto fnExactCheckStampSpec)

/-- 'laws.FnExactMakeStamp', WHERE WHAT IT READS IS OF BULK AT MOST 1048576: true; the input reads as it did. -/
def fnExactMakeStampUptoRow : OpenClaim := { program := "ytcfealjfanoegaa", sum := "cc6d57274639280d843ce0eb4639bdce1550b8a61758676ab3a218253c5b9456", func := "loop.example/g00597/laws.FnExactMakeStamp", spec := "fnExactMakeStamp", apart := false, narrowed := true }
def FnExactMakeStampUptoSaid : Prop := fnExactMakeStampUptoRow.holds Try.pinned (OpenSpec.upto fnExactMakeStampSpec)

/-- 'laws.FnExactMaySignFor', WHERE WHAT IT READS IS OF BULK AT MOST 1048576: true; the input reads as it did. -/
def fnExactMaySignForUptoRow : OpenClaim := { program := "ytcfealjfanoegaa", sum := "cc6d57274639280d843ce0eb4639bdce1550b8a61758676ab3a218253c5b9456", func := "loop.example/g00597/laws.FnExactMaySignFor", spec := "fnExactMaySignFor", apart := false, narrowed := true }
def FnExactMaySignForUptoSaid : Prop := fnExactMaySignForUptoRow.holds Try.pinned (OpenSpec.upto fnExactMaySignForSpec)

/-- 'laws.FnExactSignDocument', WHERE WHAT IT READS IS OF BULK AT MOST 1048576: true; the input reads as it did. -/
def fnExactSignDocumentUptoRow : OpenClaim := { program := "ytcfealjfanoegaa", sum := "cc6d57274639280d843ce0eb4639bdce1550b8a61758676ab3a218253c5b9456", func := "loop.example/g00597/laws.FnExactSignDocument", spec := "fnExactSignDocument", apart := false, narrowed := true }
def FnExactSignDocumentUptoSaid : Prop := fnExactSignDocumentUptoRow.holds Try.pinned (OpenSpec.upto fnExactSignDocumentSpec)

end Rows
end Go.Proofs.Ytcfealjfanoegaa
