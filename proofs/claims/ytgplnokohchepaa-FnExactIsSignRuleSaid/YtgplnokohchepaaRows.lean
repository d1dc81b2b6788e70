/-
  No cell of these rows narrows 'for every input' (looked for: loops, veiled, ifaces, maps, wideKeys, modest, calm, conditions, laid).
  DERIVED. THE GIVEN ROWS OF THIS SEAT. 12 by the template 'for every input the law returns true; each argument reads behind the call as it read before'; 0 by the template 'total and deterministic' (their statements: YtgplnokohchepaaTotals.lean).
  GIVEN WITH THE SEED: the statements are not yours to turn. If you find one false, say at which input.
  Laid BY PROGRAM, IN A SANDBOX (cutbox-rows.mjs): the forced cells as the released guide's own fill.sh prints them over the translation 85389483dcbdf425… (all of the seat's roots in one cut). By AI agents, Wed Nov 11 2026. No macro, syntax, notation, axiom, sorry.
-/
import Derived.Test.YtgplnokohchepaaChecked
import GoSem.Claim
import GoSem.ClaimJoined
import GoSem.ClaimMapViews
import Derived.JoinedTies
import Derived.KernelRfl
namespace Go.Proofs.Ytgplnokohchepaa
/- THE CELL 'sum', in the pinned program and in every row, IS THE sha256 OF THE DUMP (.gsa) THAT YtgplnokohchepaaProg.lean LOADS. Nothing in Lean hashes anything: it is a label: what it is worth is what the hold of that sum in a sandbox is worth. -/
noncomputable def Try.pinned : Pinned := { name := "ytgplnokohchepaa", sum := "85389483dcbdf425b7fe655b1a0eb28f910bcd8671fa8d5089bc0aa3f1647926", checked := Try.checked }
namespace Rows
def none {H : Type} : Left H := { results := [], args := [] }

/-- 'laws.FnExactFindAuthority': WHATEVER THE INPUT: true; the input reads as it did. -/
def fnExactFindAuthoritySpec : ChangeSpec := { name := "fnExactFindAuthority", fn := fun _ => fun
  | [d1, d2] => { results := [.lit (.bool true)], args := [d1, d2] }
  | _ => none }
def fnExactFindAuthorityRow : OpenClaim := { program := "ytgplnokohchepaa", sum := "85389483dcbdf425b7fe655b1a0eb28f910bcd8671fa8d5089bc0aa3f1647926", func := "loop.example/g00597/laws.FnExactFindAuthority", spec := "fnExactFindAuthority", apart := false }
def FnExactFindAuthoritySaid : Prop := fnExactFindAuthorityRow.holds Try.pinned (OpenSpec.ofChange fnExactFindAuthoritySpec)

/-- ITS FALSE NEIGHBOUR: 'it returns false'. Refute it at one input. -/
def fnExactFindAuthorityWrong : ChangeSpec := { name := "fnExactFindAuthority", fn := fun _ => fun
  | [d1, d2] => { results := [.lit (.bool false)], args := [d1, d2] }
  | _ => none }
def FnExactFindAuthorityWrongFalsely : Prop := fnExactFindAuthorityRow.holds Try.pinned (OpenSpec.ofChange fnExactFindAuthorityWrong)

/-- 'laws.FnExactAreAuthorities': WHATEVER THE INPUT: true; the input reads as it did. -/
def fnExactAreAuthoritiesSpec : ChangeSpec := { name := "fnExactAreAuthorities", fn := fun _ => fun
  | [d] => { results := [.lit (.bool true)], args := [d] }
  | _ => none }
def fnExactAreAuthoritiesRow : OpenClaim := { program := "ytgplnokohchepaa", sum := "85389483dcbdf425b7fe655b1a0eb28f910bcd8671fa8d5089bc0aa3f1647926", func := "loop.example/g00597/laws.FnExactAreAuthorities", spec := "fnExactAreAuthorities", apart := false }
def FnExactAreAuthoritiesSaid : Prop := fnExactAreAuthoritiesRow.holds Try.pinned (OpenSpec.ofChange fnExactAreAuthoritiesSpec)

/-- ITS FALSE NEIGHBOUR: 'it returns false'. Refute it at one input. -/
def fnExactAreAuthoritiesWrong : ChangeSpec := { name := "fnExactAreAuthorities", fn := fun _ => fun
  | [d] => { results := [.lit (.bool false)], args := [d] }
  | _ => none }
def FnExactAreAuthoritiesWrongFalsely : Prop := fnExactAreAuthoritiesRow.holds Try.pinned (OpenSpec.ofChange fnExactAreAuthoritiesWrong)

/-- 'laws.FnExactCountAt': WHATEVER THE INPUT: true; the input reads as it did. -/
def fnExactCountAtSpec : ChangeSpec := { name := "fnExactCountAt", fn := fun _ => fun
  | [d1, d2] => { results := [.lit (.bool true)], args := [d1, d2] }
  | _ => none }
def fnExactCountAtRow : OpenClaim := { program := "ytgplnokohchepaa", sum := "85389483dcbdf425b7fe655b1a0eb28f910bcd8671fa8d5089bc0aa3f1647926", func := "loop.example/g00597/laws.FnExactCountAt", spec := "fnExactCountAt", apart := false }
def FnExactCountAtSaid : Prop := fnExactCountAtRow.holds Try.pinned (OpenSpec.ofChange fnExactCountAtSpec)

/-- ITS FALSE NEIGHBOUR: 'it returns false'. Refute it at one input. -/
def fnExactCountAtWrong : ChangeSpec := { name := "fnExactCountAt", fn := fun _ => fun
  | [d1, d2] => { results := [.lit (.bool false)], args := [d1, d2] }
  | _ => none }
def FnExactCountAtWrongFalsely : Prop := fnExactCountAtRow.holds Try.pinned (OpenSpec.ofChange fnExactCountAtWrong)

/-- 'laws.FnExactFindKey': WHATEVER THE INPUT: true; the input reads as it did. -/
def fnExactFindKeySpec : ChangeSpec := { name := "fnExactFindKey", fn := fun _ => fun
  | [d1, d2] => { results := [.lit (.bool true)], args := [d1, d2] }
  | _ => none }
def fnExactFindKeyRow : OpenClaim := { program := "ytgplnokohchepaa", sum := "85389483dcbdf425b7fe655b1a0eb28f910bcd8671fa8d5089bc0aa3f1647926", func := "loop.example/g00597/laws.FnExactFindKey", spec := "fnExactFindKey", apart := false }
def FnExactFindKeySaid : Prop := fnExactFindKeyRow.holds Try.pinned (OpenSpec.ofChange fnExactFindKeySpec)

/-- ITS FALSE NEIGHBOUR: 'it returns false'. Refute it at one input. -/
def fnExactFindKeyWrong : ChangeSpec := { name := "fnExactFindKey", fn := fun _ => fun
  | [d1, d2] => { results := [.lit (.bool false)], args := [d1, d2] }
  | _ => none }
def FnExactFindKeyWrongFalsely : Prop := fnExactFindKeyRow.holds Try.pinned (OpenSpec.ofChange fnExactFindKeyWrong)

/-- 'laws.FnExactIsSupported': WHATEVER THE INPUT: true; the input reads as it did. -/
def fnExactIsSupportedSpec : ChangeSpec := { name := "fnExactIsSupported", fn := fun _ => fun
  | [d1, d2, d3] => { results := [.lit (.bool true)], args := [d1, d2, d3] }
  | _ => none }
def fnExactIsSupportedRow : OpenClaim := { program := "ytgplnokohchepaa", sum := "85389483dcbdf425b7fe655b1a0eb28f910bcd8671fa8d5089bc0aa3f1647926", func := "loop.example/g00597/laws.FnExactIsSupported", spec := "fnExactIsSupported", apart := false }
def FnExactIsSupportedSaid : Prop := fnExactIsSupportedRow.holds Try.pinned (OpenSpec.ofChange fnExactIsSupportedSpec)

/-- ITS FALSE NEIGHBOUR: 'it returns false'. Refute it at one input. -/
def fnExactIsSupportedWrong : ChangeSpec := { name := "fnExactIsSupported", fn := fun _ => fun
  | [d1, d2, d3] => { results := [.lit (.bool false)], args := [d1, d2, d3] }
  | _ => none }
def FnExactIsSupportedWrongFalsely : Prop := fnExactIsSupportedRow.holds Try.pinned (OpenSpec.ofChange fnExactIsSupportedWrong)

/-- 'laws.FnExactFindCert': WHATEVER THE INPUT: true; the input reads as it did. -/
def fnExactFindCertSpec : ChangeSpec := { name := "fnExactFindCert", fn := fun _ => fun
  | [d1, d2] => { results := [.lit (.bool true)], args := [d1, d2] }
  | _ => none }
def fnExactFindCertRow : OpenClaim := { program := "ytgplnokohchepaa", sum := "85389483dcbdf425b7fe655b1a0eb28f910bcd8671fa8d5089bc0aa3f1647926", func := "loop.example/g00597/laws.FnExactFindCert", spec := "fnExactFindCert", apart := false }
def FnExactFindCertSaid : Prop := fnExactFindCertRow.holds Try.pinned (OpenSpec.ofChange fnExactFindCertSpec)

/-- ITS FALSE NEIGHBOUR: 'it returns false'. Refute it at one input. -/
def fnExactFindCertWrong : ChangeSpec := { name := "fnExactFindCert", fn := fun _ => fun
  | [d1, d2] => { results := [.lit (.bool false)], args := [d1, d2] }
  | _ => none }
def FnExactFindCertWrongFalsely : Prop := fnExactFindCertRow.holds Try.pinned (OpenSpec.ofChange fnExactFindCertWrong)

/-- 'laws.FnExactAreKeys': WHATEVER THE INPUT: true; the input reads as it did. -/
def fnExactAreKeysSpec : ChangeSpec := { name := "fnExactAreKeys", fn := fun _ => fun
  | [d] => { results := [.lit (.bool true)], args := [d] }
  | _ => none }
def fnExactAreKeysRow : OpenClaim := { program := "ytgplnokohchepaa", sum := "85389483dcbdf425b7fe655b1a0eb28f910bcd8671fa8d5089bc0aa3f1647926", func := "loop.example/g00597/laws.FnExactAreKeys", spec := "fnExactAreKeys", apart := false }
def FnExactAreKeysSaid : Prop := fnExactAreKeysRow.holds Try.pinned (OpenSpec.ofChange fnExactAreKeysSpec)

/-- ITS FALSE NEIGHBOUR: 'it returns false'. Refute it at one input. -/
def fnExactAreKeysWrong : ChangeSpec := { name := "fnExactAreKeys", fn := fun _ => fun
  | [d] => { results := [.lit (.bool false)], args := [d] }
  | _ => none }
def FnExactAreKeysWrongFalsely : Prop := fnExactAreKeysRow.holds Try.pinned (OpenSpec.ofChange fnExactAreKeysWrong)

/-- 'laws.FnExactOwnerOf': WHATEVER THE INPUT: true; the input reads as it did. -/
def fnExactOwnerOfSpec : ChangeSpec := { name := "fnExactOwnerOf", fn := fun _ => fun
  | [d1, d2] => { results := [.lit (.bool true)], args := [d1, d2] }
  | _ => none }
def fnExactOwnerOfRow : OpenClaim := { program := "ytgplnokohchepaa", sum := "85389483dcbdf425b7fe655b1a0eb28f910bcd8671fa8d5089bc0aa3f1647926", func := "loop.example/g00597/laws.FnExactOwnerOf", spec := "fnExactOwnerOf", apart := false }
def FnExactOwnerOfSaid : Prop := fnExactOwnerOfRow.holds Try.pinned (OpenSpec.ofChange fnExactOwnerOfSpec)

/-- ITS FALSE NEIGHBOUR: 'it returns false'. Refute it at one input. -/
def fnExactOwnerOfWrong : ChangeSpec := { name := "fnExactOwnerOf", fn := fun _ => fun
  | [d1, d2] => { results := [.lit (.bool false)], args := [d1, d2] }
  | _ => none }
def FnExactOwnerOfWrongFalsely : Prop := fnExactOwnerOfRow.holds Try.pinned (OpenSpec.ofChange fnExactOwnerOfWrong)

/-- 'laws.FnExactStampKey': WHATEVER THE INPUT: true; the input reads as it did. -/
def fnExactStampKeySpec : ChangeSpec := { name := "fnExactStampKey", fn := fun _ => fun
  | [d1, d2] => { results := [.lit (.bool true)], args := [d1, d2] }
  | _ => none }
def fnExactStampKeyRow : OpenClaim := { program := "ytgplnokohchepaa", sum := "85389483dcbdf425b7fe655b1a0eb28f910bcd8671fa8d5089bc0aa3f1647926", func := "loop.example/g00597/laws.FnExactStampKey", spec := "fnExactStampKey", apart := false }
def FnExactStampKeySaid : Prop := fnExactStampKeyRow.holds Try.pinned (OpenSpec.ofChange fnExactStampKeySpec)

/-- ITS FALSE NEIGHBOUR: 'it returns false'. Refute it at one input. -/
def fnExactStampKeyWrong : ChangeSpec := { name := "fnExactStampKey", fn := fun _ => fun
  | [d1, d2] => { results := [.lit (.bool false)], args := [d1, d2] }
  | _ => none }
def FnExactStampKeyWrongFalsely : Prop := fnExactStampKeyRow.holds Try.pinned (OpenSpec.ofChange fnExactStampKeyWrong)

/-- 'laws.FnExactIsSignRule': WHATEVER THE INPUT: true; the input reads as it did. -/
def fnExactIsSignRuleSpec : ChangeSpec := { name := "fnExactIsSignRule", fn := fun _ => fun
  | [d] => { results := [.lit (.bool true)], args := [d] }
  | _ => none }
def fnExactIsSignRuleRow : OpenClaim := { program := "ytgplnokohchepaa", sum := "85389483dcbdf425b7fe655b1a0eb28f910bcd8671fa8d5089bc0aa3f1647926", func := "loop.example/g00597/laws.FnExactIsSignRule", spec := "fnExactIsSignRule", apart := false }
def FnExactIsSignRuleSaid : Prop := fnExactIsSignRuleRow.holds Try.pinned (OpenSpec.ofChange fnExactIsSignRuleSpec)

/-- ITS FALSE NEIGHBOUR: 'it returns false'. Refute it at one input. -/
def fnExactIsSignRuleWrong : ChangeSpec := { name := "fnExactIsSignRule", fn := fun _ => fun
  | [d] => { results := [.lit (.bool false)], args := [d] }
  | _ => none }
def FnExactIsSignRuleWrongFalsely : Prop := fnExactIsSignRuleRow.holds Try.pinned (OpenSpec.ofChange fnExactIsSignRuleWrong)

/-- 'laws.FnExactBadFrom': WHATEVER THE INPUT: true; the input reads as it did. -/
def fnExactBadFromSpec : ChangeSpec := { name := "fnExactBadFrom", fn := fun _ => fun
  | [d1, d2] => { results := [.lit (.bool true)], args := [d1, d2] }
  | _ => none }
def fnExactBadFromRow : OpenClaim := { program := "ytgplnokohchepaa", sum := "85389483dcbdf425b7fe655b1a0eb28f910bcd8671fa8d5089bc0aa3f1647926", func := "loop.example/g00597/laws.FnExactBadFrom", spec := "fnExactBadFrom", apart := false }
def FnExactBadFromSaid : Prop := fnExactBadFromRow.holds Try.pinned (OpenSpec.ofChange fnExactBadFromSpec)

/-- ITS FALSE NEIGHBOUR: 'it returns false'. Refute it at one input. -/
def fnExactBadFromWrong : ChangeSpec := { name := "fnExactBadFrom", fn := fun _ => fun
  | [d1, d2] => { results := [.lit (.bool false)], args := [d1, d2] }
  | _ => none }
def FnExactBadFromWrongFalsely : Prop := fnExactBadFromRow.holds Try.pinned (OpenSpec.ofChange fnExactBadFromWrong)

/-- 'laws.FnExactGoodUntil': WHATEVER THE INPUT: true; the input reads as it did. -/
def fnExactGoodUntilSpec : ChangeSpec := { name := "fnExactGoodUntil", fn := fun _ => fun
  | [d1, d2] => { results := [.lit (.bool true)], args := [d1, d2] }
  | _ => none }
def fnExactGoodUntilRow : OpenClaim := { program := "ytgplnokohchepaa", sum := "85389483dcbdf425b7fe655b1a0eb28f910bcd8671fa8d5089bc0aa3f1647926", func := "loop.example/g00597/laws.FnExactGoodUntil", spec := "fnExactGoodUntil", apart := false }
def FnExactGoodUntilSaid : Prop := fnExactGoodUntilRow.holds Try.pinned (OpenSpec.ofChange fnExactGoodUntilSpec)

/-- ITS FALSE NEIGHBOUR: 'it returns false'. Refute it at one input. -/
def fnExactGoodUntilWrong : ChangeSpec := { name := "fnExactGoodUntil", fn := fun _ => fun
  | [d1, d2] => { results := [.lit (.bool false)], args := [d1, d2] }
  | _ => none }
def FnExactGoodUntilWrongFalsely : Prop := fnExactGoodUntilRow.holds Try.pinned (OpenSpec.ofChange fnExactGoodUntilWrong)

/- THE SECOND FORM. 'bulk': how many values and letters a reading holds, each counted each time it is reached (what is shared counts as often as it is met; a slice's spare places count too). A statement '..UptoSaid' is the law's where the arguments, and the package variables that the reading takes, are together of bulk at most 1048576: NARROWER than '..Said'. Prove '..Said' where nothing that the law and all that it calls make is longer than what came in: it says more and counts as full. Else prove '..UptoSaid'. A law counts once. -/
mutual
def uptoBulk {H : Type} : DataW H → Nat
  | .lit (.string bytes) => bytes.length + 1
  | .lit _ => 1
  | .nil => 1
  | .ptr d => uptoBulk d + 1
  | .slice elems spare => uptoBulkAll elems + uptoBulkAll spare + 1
  | .agg parts => uptoBulkAll parts + 1
  | .iface _ d => uptoBulk d + 1
  | .map entries => uptoBulkEntries entries + 1
  | .held _ => 1
def uptoBulkAll {H : Type} : List (DataW H) → Nat
  | [] => 0
  | d :: r => uptoBulk d + uptoBulkAll r
def uptoBulkEntries {H : Type} : List (Lit × DataW H) → Nat
  | [] => 0
  | x :: r => uptoBulkEntry x + uptoBulkEntries r
def uptoBulkEntry {H : Type} : Lit × DataW H → Nat
  | (.string bytes, d) => bytes.length + uptoBulk d + 1
  | (_, d) => uptoBulk d + 1
 end
def uptoSmall : (H : Type) → List (DataW H) → Bool := fun _ ds => decide (uptoBulkAll ds ≤ 1048576)
def OpenSpec.upto (s : _root_.Go.ChangeSpec) : _root_.Go.OpenSpec := { _root_.Go.OpenSpec.ofChange s with cond := some uptoSmall }

/-- 'laws.FnExactFindAuthority', WHERE WHAT IT READS IS OF BULK AT MOST 1048576: true; the input reads as it did. -/
def fnExactFindAuthorityUptoRow : OpenClaim := { program := "ytgplnokohchepaa", sum := "85389483dcbdf425b7fe655b1a0eb28f910bcd8671fa8d5089bc0aa3f1647926", func := "loop.example/g00597/laws.FnExactFindAuthority", spec := "fnExactFindAuthority", apart := false, narrowed := true }
def FnExactFindAuthorityUptoSaid : Prop := fnExactFindAuthorityUptoRow.holds Try.pinned (OpenSpec.upto fnExactFindAuthoritySpec)

/-- 'laws.FnExactAreAuthorities', WHERE WHAT IT READS IS OF BULK AT MOST 1048576: true; the input reads as it did. -/
def fnExactAreAuthoritiesUptoRow : OpenClaim := { program := "ytgplnokohchepaa", sum := "85389483dcbdf425b7fe655b1a0eb28f910bcd8671fa8d5089bc0aa3f1647926", func := "loop.example/g00597/laws.FnExactAreAuthorities", spec := "fnExactAreAuthorities", apart := false, narrowed := true }
def FnExactAreAuthoritiesUptoSaid : Prop := fnExactAreAuthoritiesUptoRow.holds Try.pinned (OpenSpec.upto fnExactAreAuthoritiesSpec)

/-- 'laws.FnExactCountAt', WHERE WHAT IT READS IS OF BULK AT MOST 1048576: true; the input reads as it did. -/
def fnExactCountAtUptoRow : OpenClaim := { program := "ytgplnokohchepaa", sum := "85389483dcbdf425b7fe655b1a0eb28f910bcd8671fa8d5089bc0aa3f1647926", func := "loop.example/g00597/laws.FnExactCountAt", spec := "fnExactCountAt", apart := false, narrowed := true }
def FnExactCountAtUptoSaid : Prop := fnExactCountAtUptoRow.holds Try.pinned (OpenSpec.upto fnExactCountAtSpec)

/-- 'laws.FnExactFindKey', WHERE WHAT IT READS IS OF BULK AT MOST 1048576: true; the input reads as it did. -/
def fnExactFindKeyUptoRow : OpenClaim := { program := "ytgplnokohchepaa", sum := "85389483dcbdf425b7fe655b1a0eb28f910bcd8671fa8d5089bc0aa3f1647926", func := "loop.example/g00597/laws.FnExactFindKey", spec := "fnExactFindKey", apart := false, narrowed := true }
def FnExactFindKeyUptoSaid : Prop := fnExactFindKeyUptoRow.holds Try.pinned (OpenSpec.upto fnExactFindKeySpec)

/-- 'laws.FnExactIsSupported', WHERE WHAT IT READS IS OF BULK AT MOST 1048576: true; the input reads as it did. -/
def fnExactIsSupportedUptoRow : OpenClaim := { program := "ytgplnokohchepaa", sum := "85389483dcbdf425b7fe655b1a0eb28f910bcd8671fa8d5089bc0aa3f1647926", func := "loop.example/g00597/laws.FnExactIsSupported", spec := "fnExactIsSupported", apart := false, narrowed := true }
def FnExactIsSupportedUptoSaid : Prop := fnExactIsSupportedUptoRow.holds Try.pinned (OpenSpec.upto fnExactIsSupportedSpec)

/-- 'laws.FnExactFindCert', WHERE WHAT IT READS IS OF BULK AT MOST 1048576: true; the input reads as it did. -/
def fnExactFindCertUptoRow : OpenClaim := { program := "ytgplnokohchepaa", sum := "85389483dcbdf425b7fe655b1a0eb28f910bcd8671fa8d5089bc0aa3f1647926", func := "loop.example/g00597/laws.FnExactFindCert", spec := "fnExactFindCert", apart := false, narrowed := true }
def FnExactFindCertUptoSaid : Prop := fnExactFindCertUptoRow.holds Try.pinned (OpenSpec.upto fnExactFindCertSpec)

/-- 'laws.FnExactAreKeys', WHERE WHAT IT READS IS OF BULK AT MOST 1048576: true; the input reads as it did. -/
def fnExactAreKeysUptoRow : OpenClaim := { program := "ytgplnokohchepaa", sum := "85389483dcbdf425b7fe655b1a0eb28f910bcd8671fa8d5089bc0aa3f1647926", func := "loop.example/g00597/laws.FnExactAreKeys", spec := "fnExactAreKeys", apart := false, narrowed := true }
def FnExactAreKeysUptoSaid : Prop := fnExactAreKeysUptoRow.holds Try.pinned (OpenSpec.upto fnExactAreKeysSpec)

/-- 'laws.FnExactOwnerOf', WHERE WHAT IT READS IS OF BULK AT MOST 1048576: true; the input reads as it did. -/
def fnExactOwnerOfUptoRow : OpenClaim := { program := "ytgplnokohchepaa", sum := "85389483dcbdf425b7fe655b1a0eb28f910bcd8671fa8d5089bc0aa3f1647926", func := "loop.example/g00597/laws.FnExactOwnerOf", spec := "fnExactOwnerOf", apart := false, narrowed := true }
def FnExactOwnerOfUptoSaid : Prop := fnExactOwnerOfUptoRow.holds Try.pinned (OpenSpec.upto fnExactOwnerOfSpec)

/-- 'laws.FnExactStampKey', WHERE WHAT IT READS IS OF BULK AT MOST 1048576: true; the input reads as it did. -/
def fnExactStampKeyUptoRow : OpenClaim := { program := "ytgplnokohchepaa", sum := "85389483dcbdf425b7fe655b1a0eb28f910bcd8671fa8d5089bc0aa3f1647926", func := "loop.example/g00597/laws.FnExactStampKey", spec := "fnExactStampKey", apart := false, narrowed := true }
def FnExactStampKeyUptoSaid : Prop := fnExactStampKeyUptoRow.holds Try.pinned (OpenSpec.upto fnExactStampKeySpec)

/-- 'laws.FnExactIsSignRule', WHERE WHAT IT READS IS OF BULK AT MOST 1048576: true; the input reads as it did. -/
def fnExactIsSignRuleUptoRow : OpenClaim := { program := "ytgplnokohchepaa", sum := "85389483dcbdf425b7fe655b1a0eb28f910bcd8671fa8d5089bc0aa3f1647926", func := "loop.example/g00597/laws.FnExactIsSignRule", spec := "fnExactIsSignRule", apart := false, narrowed := true }
def FnExactIsSignRuleUptoSaid : Prop := fnExactIsSignRuleUptoRow.holds Try.pinned (OpenSpec.upto fnExactIsSignRuleSpec)

/-- 'laws.FnExactBadFrom', WHERE WHAT IT READS IS OF BULK AT MOST 1048576: true; the input reads as it did. -/
def fnExactBadFromUptoRow : OpenClaim := { program := "ytgplnokohchepaa", sum := "85389483dcbdf425b7fe655b1a0eb28f910bcd8671fa8d5089bc0aa3f1647926", func := "loop.example/g00597/laws.FnExactBadFrom", spec := "fnExactBadFrom", apart := false, narrowed := true }
def FnExactBadFromUptoSaid : Prop := fnExactBadFromUptoRow.holds Try.pinned (OpenSpec.upto fnExactBadFromSpec)

/-- 'laws.FnExactGoodUntil', WHERE WHAT IT READS IS OF BULK AT MOST 1048576: true; the input reads as it did. -/
def fnExactGoodUntilUptoRow : OpenClaim := { program := "ytgplnokohchepaa", sum := "85389483dcbdf425b7fe655b1a0eb28f910bcd8671fa8d5089bc0aa3f1647926", func := "loop.example/g00597/laws.FnExactGoodUntil", spec := "fnExactGoodUntil", apart := false, narrowed := true }
def FnExactGoodUntilUptoSaid : Prop := fnExactGoodUntilUptoRow.holds Try.pinned (OpenSpec.upto fnExactGoodUntilSpec)

end Rows
end Go.Proofs.Ytgplnokohchepaa
