/-
  No cell of these rows narrows 'for every input' (looked for: loops, veiled, ifaces, maps, wideKeys, modest, calm, conditions, laid).
  DERIVED. THE GIVEN ROWS OF THIS SEAT. 12 by the template 'for every input the law returns true; each argument reads behind the call as it read before'; 0 by the template 'total and deterministic' (their statements: YtjacbpmkdlngaaaTotals.lean).
  GIVEN WITH THE SEED: the statements are not yours to turn. If you find one false, say at which input.
  Laid BY PROGRAM, IN A SANDBOX (cutbox-rows.mjs): the forced cells as the released guide's own fill.sh prints them over the translation 369528eb5ec7c835… (all of the seat's roots in one cut). By AI agents, Wed Nov 11 2026. No macro, syntax, notation, axiom, sorry.
-/
import Derived.Test.YtjacbpmkdlngaaaChecked
import GoSem.Claim
import GoSem.ClaimJoined
import GoSem.ClaimMapViews
import Derived.JoinedTies
import Derived.KernelRfl
namespace Go.Proofs.Ytjacbpmkdlngaaa
/- THE CELL 'sum', in the pinned program and in every row, IS THE sha256 OF THE DUMP (.gsa) THAT YtjacbpmkdlngaaaProg.lean LOADS. Nothing in Lean hashes anything: it is a label: what it is worth is what the hold of that sum in a sandbox is worth. -/
noncomputable def Try.pinned : Pinned := { name := "ytjacbpmkdlngaaa", sum := "369528eb5ec7c8355f7f19b1afd8a6f6836fb1a5166a7fb4864b07253ff21627", checked := Try.checked }
namespace Rows
def none {H : Type} : Left H := { results := [], args := [] }

/-- 'laws.FnExactCheckMark': WHATEVER THE INPUT: true; the input reads as it did. -/
def fnExactCheckMarkSpec : ChangeSpec := { name := "fnExactCheckMark", fn := fun _ => fun
  | [d1, d2, d3, d4] => { results := [.lit (.bool true)], args := [d1, d2, d3, d4] }
  | _ => none }
def fnExactCheckMarkRow : OpenClaim := { program := "ytjacbpmkdlngaaa", sum := "369528eb5ec7c8355f7f19b1afd8a6f6836fb1a5166a7fb4864b07253ff21627", func := "loop.example/g00597/laws.FnExactCheckMark", spec := "fnExactCheckMark", apart := false }
def FnExactCheckMarkSaid : Prop := fnExactCheckMarkRow.holds Try.pinned (OpenSpec.ofChange fnExactCheckMarkSpec)

/-- ITS FALSE NEIGHBOUR: 'it returns false'. Refute it at one input. -/
def fnExactCheckMarkWrong : ChangeSpec := { name := "fnExactCheckMark", fn := fun _ => fun
  | [d1, d2, d3, d4] => { results := [.lit (.bool false)], args := [d1, d2, d3, d4] }
  | _ => none }
def FnExactCheckMarkWrongFalsely : Prop := fnExactCheckMarkRow.holds Try.pinned (OpenSpec.ofChange fnExactCheckMarkWrong)

/-- 'laws.FnExactCheckStatus': WHATEVER THE INPUT: true; the input reads as it did. -/
def fnExactCheckStatusSpec : ChangeSpec := { name := "fnExactCheckStatus", fn := fun _ => fun
  | [d1, d2] => { results := [.lit (.bool true)], args := [d1, d2] }
  | _ => none }
def fnExactCheckStatusRow : OpenClaim := { program := "ytjacbpmkdlngaaa", sum := "369528eb5ec7c8355f7f19b1afd8a6f6836fb1a5166a7fb4864b07253ff21627", func := "loop.example/g00597/laws.FnExactCheckStatus", spec := "fnExactCheckStatus", apart := false }
def FnExactCheckStatusSaid : Prop := fnExactCheckStatusRow.holds Try.pinned (OpenSpec.ofChange fnExactCheckStatusSpec)

/-- ITS FALSE NEIGHBOUR: 'it returns false'. Refute it at one input. -/
def fnExactCheckStatusWrong : ChangeSpec := { name := "fnExactCheckStatus", fn := fun _ => fun
  | [d1, d2] => { results := [.lit (.bool false)], args := [d1, d2] }
  | _ => none }
def FnExactCheckStatusWrongFalsely : Prop := fnExactCheckStatusRow.holds Try.pinned (OpenSpec.ofChange fnExactCheckStatusWrong)

/-- 'laws.FnExactCheckSignature': WHATEVER THE INPUT: true; the input reads as it did. -/
def fnExactCheckSignatureSpec : ChangeSpec := { name := "fnExactCheckSignature", fn := fun _ => fun
  | [d1, d2] => { results := [.lit (.bool true)], args := [d1, d2] }
  | _ => none }
def fnExactCheckSignatureRow : OpenClaim := { program := "ytjacbpmkdlngaaa", sum := "369528eb5ec7c8355f7f19b1afd8a6f6836fb1a5166a7fb4864b07253ff21627", func := "loop.example/g00597/laws.FnExactCheckSignature", spec := "fnExactCheckSignature", apart := false }
def FnExactCheckSignatureSaid : Prop := fnExactCheckSignatureRow.holds Try.pinned (OpenSpec.ofChange fnExactCheckSignatureSpec)

/-- ITS FALSE NEIGHBOUR: 'it returns false'. Refute it at one input. -/
def fnExactCheckSignatureWrong : ChangeSpec := { name := "fnExactCheckSignature", fn := fun _ => fun
  | [d1, d2] => { results := [.lit (.bool false)], args := [d1, d2] }
  | _ => none }
def FnExactCheckSignatureWrongFalsely : Prop := fnExactCheckSignatureRow.holds Try.pinned (OpenSpec.ofChange fnExactCheckSignatureWrong)

/-- 'laws.FnExactCheckSuccession': WHATEVER THE INPUT: true; the input reads as it did. -/
def fnExactCheckSuccessionSpec : ChangeSpec := { name := "fnExactCheckSuccession", fn := fun _ => fun
  | [d1, d2] => { results := [.lit (.bool true)], args := [d1, d2] }
  | _ => none }
def fnExactCheckSuccessionRow : OpenClaim := { program := "ytjacbpmkdlngaaa", sum := "369528eb5ec7c8355f7f19b1afd8a6f6836fb1a5166a7fb4864b07253ff21627", func := "loop.example/g00597/laws.FnExactCheckSuccession", spec := "fnExactCheckSuccession", apart := false }
def FnExactCheckSuccessionSaid : Prop := fnExactCheckSuccessionRow.holds Try.pinned (OpenSpec.ofChange fnExactCheckSuccessionSpec)

/-- ITS FALSE NEIGHBOUR: 'it returns false'. Refute it at one input. -/
def fnExactCheckSuccessionWrong : ChangeSpec := { name := "fnExactCheckSuccession", fn := fun _ => fun
  | [d1, d2] => { results := [.lit (.bool false)], args := [d1, d2] }
  | _ => none }
def FnExactCheckSuccessionWrongFalsely : Prop := fnExactCheckSuccessionRow.holds Try.pinned (OpenSpec.ofChange fnExactCheckSuccessionWrong)

/-- 'laws.FnExactCheckMandate': WHATEVER THE INPUT: true; the input reads as it did. -/
def fnExactCheckMandateSpec : ChangeSpec := { name := "fnExactCheckMandate", fn := fun _ => fun
  | [d1, d2] => { results := [.lit (.bool true)], args := [d1, d2] }
  | _ => none }
def fnExactCheckMandateRow : OpenClaim := { program := "ytjacbpmkdlngaaa", sum := "369528eb5ec7c8355f7f19b1afd8a6f6836fb1a5166a7fb4864b07253ff21627", func := "loop.example/g00597/laws.FnExactCheckMandate", spec := "fnExactCheckMandate", apart := false }
def FnExactCheckMandateSaid : Prop := fnExactCheckMandateRow.holds Try.pinned (OpenSpec.ofChange fnExactCheckMandateSpec)

/-- ITS FALSE NEIGHBOUR: 'it returns false'. Refute it at one input. -/
def fnExactCheckMandateWrong : ChangeSpec := { name := "fnExactCheckMandate", fn := fun _ => fun
  | [d1, d2] => { results := [.lit (.bool false)], args := [d1, d2] }
  | _ => none }
def FnExactCheckMandateWrongFalsely : Prop := fnExactCheckMandateRow.holds Try.pinned (OpenSpec.ofChange fnExactCheckMandateWrong)

/-- 'laws.FnExactMakeSuccession': WHATEVER THE INPUT: true; the input reads as it did. -/
def fnExactMakeSuccessionSpec : ChangeSpec := { name := "fnExactMakeSuccession", fn := fun _ => fun
  | [d1, d2] => { results := [.lit (.bool true)], args := [d1, d2] }
  | _ => none }
def fnExactMakeSuccessionRow : OpenClaim := { program := "ytjacbpmkdlngaaa", sum := "369528eb5ec7c8355f7f19b1afd8a6f6836fb1a5166a7fb4864b07253ff21627", func := "loop.example/g00597/laws.FnExactMakeSuccession", spec := "fnExactMakeSuccession", apart := false }
def FnExactMakeSuccessionSaid : Prop := fnExactMakeSuccessionRow.holds Try.pinned (OpenSpec.ofChange fnExactMakeSuccessionSpec)

/-- ITS FALSE NEIGHBOUR: 'it returns false'. Refute it at one input. -/
def fnExactMakeSuccessionWrong : ChangeSpec := { name := "fnExactMakeSuccession", fn := fun _ => fun
  | [d1, d2] => { results := [.lit (.bool false)], args := [d1, d2] }
  | _ => none }
def FnExactMakeSuccessionWrongFalsely : Prop := fnExactMakeSuccessionRow.holds Try.pinned (OpenSpec.ofChange fnExactMakeSuccessionWrong)

/-- 'laws.FnExactMakeStatus': WHATEVER THE INPUT: true; the input reads as it did. -/
def fnExactMakeStatusSpec : ChangeSpec := { name := "fnExactMakeStatus", fn := fun _ => fun
  | [d1, d2] => { results := [.lit (.bool true)], args := [d1, d2] }
  | _ => none }
def fnExactMakeStatusRow : OpenClaim := { program := "ytjacbpmkdlngaaa", sum := "369528eb5ec7c8355f7f19b1afd8a6f6836fb1a5166a7fb4864b07253ff21627", func := "loop.example/g00597/laws.FnExactMakeStatus", spec := "fnExactMakeStatus", apart := false }
def FnExactMakeStatusSaid : Prop := fnExactMakeStatusRow.holds Try.pinned (OpenSpec.ofChange fnExactMakeStatusSpec)

/-- ITS FALSE NEIGHBOUR: 'it returns false'. Refute it at one input. -/
def fnExactMakeStatusWrong : ChangeSpec := { name := "fnExactMakeStatus", fn := fun _ => fun
  | [d1, d2] => { results := [.lit (.bool false)], args := [d1, d2] }
  | _ => none }
def FnExactMakeStatusWrongFalsely : Prop := fnExactMakeStatusRow.holds Try.pinned (OpenSpec.ofChange fnExactMakeStatusWrong)

/-- 'laws.FnExactCheckCert': WHATEVER THE INPUT: true; the input reads as it did. -/
def fnExactCheckCertSpec : ChangeSpec := { name := "fnExactCheckCert", fn := fun _ => fun
  | [d1, d2] => { results := [.lit (.bool true)], args := [d1, d2] }
  | _ => none }
def fnExactCheckCertRow : OpenClaim := { program := "ytjacbpmkdlngaaa", sum := "369528eb5ec7c8355f7f19b1afd8a6f6836fb1a5166a7fb4864b07253ff21627", func := "loop.example/g00597/laws.FnExactCheckCert", spec := "fnExactCheckCert", apart := false }
def FnExactCheckCertSaid : Prop := fnExactCheckCertRow.holds Try.pinned (OpenSpec.ofChange fnExactCheckCertSpec)

/-- ITS FALSE NEIGHBOUR: 'it returns false'. Refute it at one input. -/
def fnExactCheckCertWrong : ChangeSpec := { name := "fnExactCheckCert", fn := fun _ => fun
  | [d1, d2] => { results := [.lit (.bool false)], args := [d1, d2] }
  | _ => none }
def FnExactCheckCertWrongFalsely : Prop := fnExactCheckCertRow.holds Try.pinned (OpenSpec.ofChange fnExactCheckCertWrong)

/-- 'laws.FnExactMakeMandate': WHATEVER THE INPUT: true; the input reads as it did. -/
def fnExactMakeMandateSpec : ChangeSpec := { name := "fnExactMakeMandate", fn := fun _ => fun
  | [d1, d2] => { results := [.lit (.bool true)], args := [d1, d2] }
  | _ => none }
def fnExactMakeMandateRow : OpenClaim := { program := "ytjacbpmkdlngaaa", sum := "369528eb5ec7c8355f7f19b1afd8a6f6836fb1a5166a7fb4864b07253ff21627", func := "loop.example/g00597/laws.FnExactMakeMandate", spec := "fnExactMakeMandate", apart := false }
def FnExactMakeMandateSaid : Prop := fnExactMakeMandateRow.holds Try.pinned (OpenSpec.ofChange fnExactMakeMandateSpec)

/-- ITS FALSE NEIGHBOUR: 'it returns false'. Refute it at one input. -/
def fnExactMakeMandateWrong : ChangeSpec := { name := "fnExactMakeMandate", fn := fun _ => fun
  | [d1, d2] => { results := [.lit (.bool false)], args := [d1, d2] }
  | _ => none }
def FnExactMakeMandateWrongFalsely : Prop := fnExactMakeMandateRow.holds Try.pinned (OpenSpec.ofChange fnExactMakeMandateWrong)

/-- 'laws.FnExactIssueCert': WHATEVER THE INPUT: true; the input reads as it did. -/
def fnExactIssueCertSpec : ChangeSpec := { name := "fnExactIssueCert", fn := fun _ => fun
  | [d1, d2] => { results := [.lit (.bool true)], args := [d1, d2] }
  | _ => none }
def fnExactIssueCertRow : OpenClaim := { program := "ytjacbpmkdlngaaa", sum := "369528eb5ec7c8355f7f19b1afd8a6f6836fb1a5166a7fb4864b07253ff21627", func := "loop.example/g00597/laws.FnExactIssueCert", spec := "fnExactIssueCert", apart := false }
def FnExactIssueCertSaid : Prop := fnExactIssueCertRow.holds Try.pinned (OpenSpec.ofChange fnExactIssueCertSpec)

/-- ITS FALSE NEIGHBOUR: 'it returns false'. Refute it at one input. -/
def fnExactIssueCertWrong : ChangeSpec := { name := "fnExactIssueCert", fn := fun _ => fun
  | [d1, d2] => { results := [.lit (.bool false)], args := [d1, d2] }
  | _ => none }
def FnExactIssueCertWrongFalsely : Prop := fnExactIssueCertRow.holds Try.pinned (OpenSpec.ofChange fnExactIssueCertWrong)

/-- 'laws.FnExactSignDigest': WHATEVER THE INPUT: true; the input reads as it did. -/
def fnExactSignDigestSpec : ChangeSpec := { name := "fnExactSignDigest", fn := fun _ => fun
  | [d1, d2] => { results := [.lit (.bool true)], args := [d1, d2] }
  | _ => none }
def fnExactSignDigestRow : OpenClaim := { program := "ytjacbpmkdlngaaa", sum := "369528eb5ec7c8355f7f19b1afd8a6f6836fb1a5166a7fb4864b07253ff21627", func := "loop.example/g00597/laws.FnExactSignDigest", spec := "fnExactSignDigest", apart := false }
def FnExactSignDigestSaid : Prop := fnExactSignDigestRow.holds Try.pinned (OpenSpec.ofChange fnExactSignDigestSpec)

/-- ITS FALSE NEIGHBOUR: 'it returns false'. Refute it at one input. -/
def fnExactSignDigestWrong : ChangeSpec := { name := "fnExactSignDigest", fn := fun _ => fun
  | [d1, d2] => { results := [.lit (.bool false)], args := [d1, d2] }
  | _ => none }
def FnExactSignDigestWrongFalsely : Prop := fnExactSignDigestRow.holds Try.pinned (OpenSpec.ofChange fnExactSignDigestWrong)

/-- 'laws.FnExactNextKey': WHATEVER THE INPUT: true; the input reads as it did. -/
def fnExactNextKeySpec : ChangeSpec := { name := "fnExactNextKey", fn := fun _ => fun
  | [d1, d2, d3, d4] => { results := [.lit (.bool true)], args := [d1, d2, d3, d4] }
  | _ => none }
def fnExactNextKeyRow : OpenClaim := { program := "ytjacbpmkdlngaaa", sum := "369528eb5ec7c8355f7f19b1afd8a6f6836fb1a5166a7fb4864b07253ff21627", func := "loop.example/g00597/laws.FnExactNextKey", spec := "fnExactNextKey", apart := false }
def FnExactNextKeySaid : Prop := fnExactNextKeyRow.holds Try.pinned (OpenSpec.ofChange fnExactNextKeySpec)

/-- ITS FALSE NEIGHBOUR: 'it returns false'. Refute it at one input. -/
def fnExactNextKeyWrong : ChangeSpec := { name := "fnExactNextKey", fn := fun _ => fun
  | [d1, d2, d3, d4] => { results := [.lit (.bool false)], args := [d1, d2, d3, d4] }
  | _ => none }
def FnExactNextKeyWrongFalsely : Prop := fnExactNextKeyRow.holds Try.pinned (OpenSpec.ofChange fnExactNextKeyWrong)

/- THE SECOND FORM. 'bulk': how many values and letters a reading holds, each counted each time it is reached (what is shared counts as often as it is met; a slice's spare places count too). A statement '..UptoSaid' is the law's where the arguments, and the package variables that the reading takes, are together of bulk at most 1048576: NARROWER than '..Said'. Prove '..Said' where nothing that the law and all that it calls make is longer than what came in: it says more and counts as full. Else prove '..UptoSaid'. A law counts once. -/
mutual
def uptoBulk {H : Type} : DataW H → Nat
  | .lit (.string bytes) => bytes.length + 1
  | .lit _ => 1
  | .nil => 1
  | .ptr d => uptoBulk d + 1
  | .slice elems spare => uptoBulkAll elems + uptoBulkAll spare + 1
  | .agg parts => uptoBulkAll parts + 1
  | .iface _ d => uptoBulk d + 1
  | .map entries => uptoBulkEntries entries + 1
  | .held _ => 1
def uptoBulkAll {H : Type} : List (DataW H) → Nat
  | [] => 0
  | d :: r => uptoBulk d + uptoBulkAll r
def uptoBulkEntries {H : Type} : List (Lit × DataW H) → Nat
  | [] => 0
  | x :: r => uptoBulkEntry x + uptoBulkEntries r
def uptoBulkEntry {H : Type} : Lit × DataW H → Nat
  | (.string bytes, d) => bytes.length + uptoBulk d + 1
  | (_, d) => uptoBulk d + 1
 end
def uptoSmall : (H : Type) → List (DataW H) → Bool := fun _ ds => decide (uptoBulkAll ds ≤ 1048576)
def OpenSpec.upto (s : _root_.Go.ChangeSpec) : _root_.Go.OpenSpec := { _root_.Go.OpenSpec.ofChange s with cond := some uptoSmall }

/-- 'laws.FnExactCheckMark', WHERE WHAT IT READS IS OF BULK AT MOST 1048576: true; the input reads as it did. -/
def fnExactCheckMarkUptoRow : OpenClaim := { program := "ytjacbpmkdlngaaa", sum := "369528eb5ec7c8355f7f19b1afd8a6f6836fb1a5166a7fb4864b07253ff21627", func := "loop.example/g00597/laws.FnExactCheckMark", spec := "fnExactCheckMark", apart := false, narrowed := true }
def FnExactCheckMarkUptoSaid : Prop := fnExactCheckMarkUptoRow.holds Try.pinned (OpenSpec.upto fnExactCheckMarkSpec)

/-- 'laws.FnExactCheckStatus', WHERE WHAT IT READS IS OF BULK AT MOST 1048576: true; the input reads as it did. -/
def fnExactCheckStatusUptoRow : OpenClaim := { program := "ytjacbpmkdlngaaa", sum := "369528eb5ec7c8355f7f19b1afd8a6f6836fb1a5166a7fb4864b07253ff21627", func := "loop.example/g00597/laws.FnExactCheckStatus", spec := "fnExactCheckStatus", apart := false, narrowed := true }
def FnExactCheckStatusUptoSaid : Prop := fnExactCheckStatusUptoRow.holds Try.pinned (OpenSpec.upto fnExactCheckStatusSpec)

/-- 'laws.FnExactCheckSignature', WHERE WHAT IT READS IS OF BULK AT MOST 1048576: true; the input reads as it did. -/
def fnExactCheckSignatureUptoRow : OpenClaim := { program := "ytjacbpmkdlngaaa", sum := "369528eb5ec7c8355f7f19b1afd8a6f6836fb1a5166a7fb4864b07253ff21627", func := "loop.example/g00597/laws.FnExactCheckSignature", spec := "fnExactCheckSignature", apart := false, narrowed := true }
def FnExactCheckSignatureUptoSaid : Prop := fnExactCheckSignatureUptoRow.holds Try.pinned (OpenSpec.upto fnExactCheckSignatureSpec)

/-- 'laws.FnExactCheckSuccession', WHERE WHAT IT READS IS OF BULK AT MOST 1048576: true; the input reads as it did. -/
def fnExactCheckSuccessionUptoRow : OpenClaim := { program := "ytjacbpmkdlngaaa", sum := "369528eb5ec7c8355f7f19b1afd8a6f6836fb1a5166a7fb4864b07253ff21627", func := "loop.example/g00597/laws.FnExactCheckSuccession", spec := "fnExactCheckSuccession", apart := false, narrowed := true }
def FnExactCheckSuccessionUptoSaid : Prop := fnExactCheckSuccessionUptoRow.holds Try.pinned (OpenSpec.upto fnExactCheckSuccessionSpec)

/-- 'laws.FnExactCheckMandate', WHERE WHAT IT READS IS OF BULK AT MOST 1048576: true; the input reads as it did. -/
def fnExactCheckMandateUptoRow : OpenClaim := { program := "ytjacbpmkdlngaaa", sum := "369528eb5ec7c8355f7f19b1afd8a6f6836fb1a5166a7fb4864b07253ff21627", func := "loop.example/g00597/laws.FnExactCheckMandate", spec := "fnExactCheckMandate", apart := false, narrowed := true }
def FnExactCheckMandateUptoSaid : Prop := fnExactCheckMandateUptoRow.holds Try.pinned (OpenSpec.upto fnExactCheckMandateSpec)

/-- 'laws.FnExactMakeSuccession', WHERE WHAT IT READS IS OF BULK AT MOST 1048576: true; the input reads as it did. -/
def fnExactMakeSuccessionUptoRow : OpenClaim := { program := "ytjacbpmkdlngaaa", sum := "369528eb5ec7c8355f7f19b1afd8a6f6836fb1a5166a7fb4864b07253ff21627", func := "loop.example/g00597/laws.FnExactMakeSuccession", spec := "fnExactMakeSuccession", apart := false, narrowed := true }
def FnExactMakeSuccessionUptoSaid : Prop := fnExactMakeSuccessionUptoRow.holds Try.pinned (OpenSpec.upto fnExactMakeSuccessionSpec)

/-- 'laws.FnExactMakeStatus', WHERE WHAT IT READS IS OF BULK AT MOST 1048576: true; the input reads as it did. -/
def fnExactMakeStatusUptoRow : OpenClaim := { program := "ytjacbpmkdlngaaa", sum := "369528eb5ec7c8355f7f19b1afd8a6f6836fb1a5166a7fb4864b07253ff21627", func := "loop.example/g00597/laws.FnExactMakeStatus", spec := "fnExactMakeStatus", apart := false, narrowed := true }
def FnExactMakeStatusUptoSaid : Prop := fnExactMakeStatusUptoRow.holds Try.pinned (OpenSpec.upto fnExactMakeStatusSpec)

/-- 'laws.FnExactCheckCert', WHERE WHAT IT READS IS OF BULK AT MOST 1048576: true; the input reads as it did. -/
def fnExactCheckCertUptoRow : OpenClaim := { program := "ytjacbpmkdlngaaa", sum := "369528eb5ec7c8355f7f19b1afd8a6f6836fb1a5166a7fb4864b07253ff21627", func := "loop.example/g00597/laws.FnExactCheckCert", spec := "fnExactCheckCert", apart := false, narrowed := true }
def FnExactCheckCertUptoSaid : Prop := fnExactCheckCertUptoRow.holds Try.pinned (OpenSpec.upto fnExactCheckCertSpec)

/-- 'laws.FnExactMakeMandate', WHERE WHAT IT READS IS OF BULK AT MOST 1048576: true; the input reads as it did. -/
def fnExactMakeMandateUptoRow : OpenClaim := { program := "ytjacbpmkdlngaaa", sum := "369528eb5ec7c8355f7f19b1afd8a6f6836fb1a5166a7fb4864b07253ff21627", func := "loop.example/g00597/laws.FnExactMakeMandate", spec := "fnExactMakeMandate", apart := false, narrowed := true }
def FnExactMakeMandateUptoSaid : Prop := fnExactMakeMandateUptoRow.holds Try.pinned (OpenSpec.upto fnExactMakeMandateSpec)

/-- 'laws.FnExactIssueCert', WHERE WHAT IT READS IS OF BULK AT MOST 1048576: true; the input reads as it did. -/
def fnExactIssueCertUptoRow : OpenClaim := { program := "ytjacbpmkdlngaaa", sum := "369528eb5ec7c8355f7f19b1afd8a6f6836fb1a5166a7fb4864b07253ff21627", func := "loop.example/g00597/laws.FnExactIssueCert", spec := "fnExactIssueCert", apart := false, narrowed := true }
def FnExactIssueCertUptoSaid : Prop := fnExactIssueCertUptoRow.holds Try.pinned (OpenSpec.upto fnExactIssueCertSpec)

/-- 'laws.FnExactSignDigest', WHERE WHAT IT READS IS OF BULK AT MOST 1048576: true; the input reads as it did. -/
def fnExactSignDigestUptoRow : OpenClaim := { program := "ytjacbpmkdlngaaa", sum := "369528eb5ec7c8355f7f19b1afd8a6f6836fb1a5166a7fb4864b07253ff21627", func := "loop.example/g00597/laws.FnExactSignDigest", spec := "fnExactSignDigest", apart := false, narrowed := true }
def FnExactSignDigestUptoSaid : Prop := fnExactSignDigestUptoRow.holds Try.pinned (OpenSpec.upto fnExactSignDigestSpec)

/-- 'laws.FnExactNextKey', WHERE WHAT IT READS IS OF BULK AT MOST 1048576: true; the input reads as it did. -/
def fnExactNextKeyUptoRow : OpenClaim := { program := "ytjacbpmkdlngaaa", sum := "369528eb5ec7c8355f7f19b1afd8a6f6836fb1a5166a7fb4864b07253ff21627", func := "loop.example/g00597/laws.FnExactNextKey", spec := "fnExactNextKey", apart := false, narrowed := true }
def FnExactNextKeyUptoSaid : Prop := fnExactNextKeyUptoRow.holds Try.pinned (OpenSpec.upto fnExactNextKeySpec)

end Rows
end Go.Proofs.Ytjacbpmkdlngaaa
