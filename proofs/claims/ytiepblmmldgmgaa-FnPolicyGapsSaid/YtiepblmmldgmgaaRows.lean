/-
  No cell of these rows narrows 'for every input' (looked for: loops, veiled, ifaces, maps, wideKeys, modest, calm, conditions, laid).
  DERIVED. THE GIVEN ROWS OF THIS SEAT. 6 by the template 'for every input the law returns true; each argument reads behind the call as it read before'; 0 by the template 'total and deterministic' (their statements: YtiepblmmldgmgaaTotals.lean).
  GIVEN WITH THE SEED: the statements are not yours to turn. If you find one false, say at which input.
  Laid BY PROGRAM, IN A SANDBOX (cutbox-rows.mjs): the forced cells as the released guide's own fill.sh prints them over the translation 9a091f8fa9e9421c… (all of the seat's roots in one cut). By AI agents, Wed Nov 11 2026. No macro, syntax, notation, axiom, sorry.
-/
import Derived.Test.YtiepblmmldgmgaaChecked
import GoSem.Claim
import GoSem.ClaimJoined
import GoSem.ClaimMapViews
import Derived.JoinedTies
import Derived.KernelRfl
namespace Go.Proofs.Ytiepblmmldgmgaa
/- THE CELL 'sum', in the pinned program and in every row, IS THE sha256 OF THE DUMP (.gsa) THAT YtiepblmmldgmgaaProg.lean LOADS. Nothing in Lean hashes anything: it is a label: what it is worth is what the hold of that sum in a sandbox is worth. -/
noncomputable def Try.pinned : Pinned := { name := "ytiepblmmldgmgaa", sum := "9a091f8fa9e9421c3e9cc49ecdb2c69a4056371c8faebcc3e8d5728e2a9df8ba", checked := Try.checked }
namespace Rows
def none {H : Type} : Left H := { results := [], args := [] }

/-- 'laws.FnSetupNumbers': WHATEVER THE INPUT: true; the input reads as it did. -/
def fnSetupNumbersSpec : ChangeSpec := { name := "fnSetupNumbers", fn := fun _ => fun
  | [d] => { results := [.lit (.bool true)], args := [d] }
  | _ => none }
def fnSetupNumbersRow : OpenClaim := { program := "ytiepblmmldgmgaa", sum := "9a091f8fa9e9421c3e9cc49ecdb2c69a4056371c8faebcc3e8d5728e2a9df8ba", func := "loop.example/sepkernel/laws.FnSetupNumbers", spec := "fnSetupNumbers", unfollowed := true, recurses := true, apart := false }
def FnSetupNumbersSaid : Prop := fnSetupNumbersRow.holds Try.pinned (OpenSpec.ofChange fnSetupNumbersSpec)

/-- ITS FALSE NEIGHBOUR: 'it returns false'. Refute it at one input. -/
def fnSetupNumbersWrong : ChangeSpec := { name := "fnSetupNumbers", fn := fun _ => fun
  | [d] => { results := [.lit (.bool false)], args := [d] }
  | _ => none }
def FnSetupNumbersWrongFalsely : Prop := fnSetupNumbersRow.holds Try.pinned (OpenSpec.ofChange fnSetupNumbersWrong)

/-- 'laws.FnReadSetup': WHATEVER THE INPUT: true; the input reads as it did. -/
def fnReadSetupSpec : ChangeSpec := { name := "fnReadSetup", fn := fun _ => fun
  | [d] => { results := [.lit (.bool true)], args := [d] }
  | _ => none }
def fnReadSetupRow : OpenClaim := { program := "ytiepblmmldgmgaa", sum := "9a091f8fa9e9421c3e9cc49ecdb2c69a4056371c8faebcc3e8d5728e2a9df8ba", func := "loop.example/sepkernel/laws.FnReadSetup", spec := "fnReadSetup", unfollowed := true, recurses := true, apart := false }
def FnReadSetupSaid : Prop := fnReadSetupRow.holds Try.pinned (OpenSpec.ofChange fnReadSetupSpec)

/-- ITS FALSE NEIGHBOUR: 'it returns false'. Refute it at one input. -/
def fnReadSetupWrong : ChangeSpec := { name := "fnReadSetup", fn := fun _ => fun
  | [d] => { results := [.lit (.bool false)], args := [d] }
  | _ => none }
def FnReadSetupWrongFalsely : Prop := fnReadSetupRow.holds Try.pinned (OpenSpec.ofChange fnReadSetupWrong)

/-- 'laws.FnLeastPolicy': WHATEVER THE INPUT: true; the input reads as it did. -/
def fnLeastPolicySpec : ChangeSpec := { name := "fnLeastPolicy", fn := fun _ => fun
  | [d] => { results := [.lit (.bool true)], args := [d] }
  | _ => none }
def fnLeastPolicyRow : OpenClaim := { program := "ytiepblmmldgmgaa", sum := "9a091f8fa9e9421c3e9cc49ecdb2c69a4056371c8faebcc3e8d5728e2a9df8ba", func := "loop.example/sepkernel/laws.FnLeastPolicy", spec := "fnLeastPolicy", unfollowed := true, recurses := true, apart := false }
def FnLeastPolicySaid : Prop := fnLeastPolicyRow.holds Try.pinned (OpenSpec.ofChange fnLeastPolicySpec)

/-- ITS FALSE NEIGHBOUR: 'it returns false'. Refute it at one input. -/
def fnLeastPolicyWrong : ChangeSpec := { name := "fnLeastPolicy", fn := fun _ => fun
  | [d] => { results := [.lit (.bool false)], args := [d] }
  | _ => none }
def FnLeastPolicyWrongFalsely : Prop := fnLeastPolicyRow.holds Try.pinned (OpenSpec.ofChange fnLeastPolicyWrong)

/-- 'laws.FnPolicyGaps': WHATEVER THE INPUT: true; the input reads as it did. -/
def fnPolicyGapsSpec : ChangeSpec := { name := "fnPolicyGaps", fn := fun _ => fun
  | [d] => { results := [.lit (.bool true)], args := [d] }
  | _ => none }
def fnPolicyGapsRow : OpenClaim := { program := "ytiepblmmldgmgaa", sum := "9a091f8fa9e9421c3e9cc49ecdb2c69a4056371c8faebcc3e8d5728e2a9df8ba", func := "loop.example/sepkernel/laws.FnPolicyGaps", spec := "fnPolicyGaps", unfollowed := true, recurses := true, apart := false }
def FnPolicyGapsSaid : Prop := fnPolicyGapsRow.holds Try.pinned (OpenSpec.ofChange fnPolicyGapsSpec)

/-- ITS FALSE NEIGHBOUR: 'it returns false'. Refute it at one input. -/
def fnPolicyGapsWrong : ChangeSpec := { name := "fnPolicyGaps", fn := fun _ => fun
  | [d] => { results := [.lit (.bool false)], args := [d] }
  | _ => none }
def FnPolicyGapsWrongFalsely : Prop := fnPolicyGapsRow.holds Try.pinned (OpenSpec.ofChange fnPolicyGapsWrong)

/-- 'laws.FnSealSetup': WHATEVER THE INPUT: true; the input reads as it did. -/
def fnSealSetupSpec : ChangeSpec := { name := "fnSealSetup", fn := fun _ => fun
  | [d1, d2] => { results := [.lit (.bool true)], args := [d1, d2] }
  | _ => none }
def fnSealSetupRow : OpenClaim := { program := "ytiepblmmldgmgaa", sum := "9a091f8fa9e9421c3e9cc49ecdb2c69a4056371c8faebcc3e8d5728e2a9df8ba", func := "loop.example/sepkernel/laws.FnSealSetup", spec := "fnSealSetup", unfollowed := true, recurses := true, apart := false }
def FnSealSetupSaid : Prop := fnSealSetupRow.holds Try.pinned (OpenSpec.ofChange fnSealSetupSpec)

/-- ITS FALSE NEIGHBOUR: 'it returns false'. Refute it at one input. -/
def fnSealSetupWrong : ChangeSpec := { name := "fnSealSetup", fn := fun _ => fun
  | [d1, d2] => { results := [.lit (.bool false)], args := [d1, d2] }
  | _ => none }
def FnSealSetupWrongFalsely : Prop := fnSealSetupRow.holds Try.pinned (OpenSpec.ofChange fnSealSetupWrong)

/-- 'laws.FnOpenSetup': WHATEVER THE INPUT: true; the input reads as it did. -/
def fnOpenSetupSpec : ChangeSpec := { name := "fnOpenSetup", fn := fun _ => fun
  | [d] => { results := [.lit (.bool true)], args := [d] }
  | _ => none }
def fnOpenSetupRow : OpenClaim := { program := "ytiepblmmldgmgaa", sum := "9a091f8fa9e9421c3e9cc49ecdb2c69a4056371c8faebcc3e8d5728e2a9df8ba", func := "loop.example/sepkernel/laws.FnOpenSetup", spec := "fnOpenSetup", unfollowed := true, recurses := true, apart := false }
def FnOpenSetupSaid : Prop := fnOpenSetupRow.holds Try.pinned (OpenSpec.ofChange fnOpenSetupSpec)

/-- ITS FALSE NEIGHBOUR: 'it returns false'. Refute it at one input. -/
def fnOpenSetupWrong : ChangeSpec := { name := "fnOpenSetup", fn := fun _ => fun
  | [d] => { results := [.lit (.bool false)], args := [d] }
  | _ => none }
def FnOpenSetupWrongFalsely : Prop := fnOpenSetupRow.holds Try.pinned (OpenSpec.ofChange fnOpenSetupWrong)

/- THE SECOND FORM. 'bulk': how many values and letters a reading holds, each counted each time it is reached (what is shared counts as often as it is met; a slice's spare places count too). A statement '..UptoSaid' is the law's where the arguments, and the package variables that the reading takes, are together of bulk at most 1048576: NARROWER than '..Said'. Prove '..Said' where nothing that the law and all that it calls make is longer than what came in: it says more and counts as full. Else prove '..UptoSaid'. A law counts once. -/
mutual
def uptoBulk {H : Type} : DataW H → Nat
  | .lit (.string bytes) => bytes.length + 1
  | .lit _ => 1
  | .nil => 1
  | .ptr d => uptoBulk d + 1
  | .slice elems spare => uptoBulkAll elems + uptoBulkAll spare + 1
  | .agg parts => uptoBulkAll parts + 1
  | .iface _ d => uptoBulk d + 1
  | .map entries => uptoBulkEntries entries + 1
  | .held _ => 1
def uptoBulkAll {H : Type} : List (DataW H) → Nat
  | [] => 0
  | d :: r => uptoBulk d + uptoBulkAll r
def uptoBulkEntries {H : Type} : List (Lit × DataW H) → Nat
  | [] => 0
  | x :: r => uptoBulkEntry x + uptoBulkEntries r
def uptoBulkEntry {H : Type} : Lit × DataW H → Nat
  | (.string bytes, d) => bytes.length + uptoBulk d + 1
  | (_, d) => uptoBulk d + 1
 end
def uptoSmall : (H : Type) → List (DataW H) → Bool := fun _ ds => decide (uptoBulkAll ds ≤ 1048576)
def OpenSpec.upto (s : _root_.Go.ChangeSpec) : _root_.Go.OpenSpec := { _root_.Go.OpenSpec.ofChange s with cond := some uptoSmall }

/-- 'laws.FnSetupNumbers', WHERE WHAT IT READS IS OF BULK AT MOST 1048576: true; the input reads as it did. -/
def fnSetupNumbersUptoRow : OpenClaim := { program := "ytiepblmmldgmgaa", sum := "9a091f8fa9e9421c3e9cc49ecdb2c69a4056371c8faebcc3e8d5728e2a9df8ba", func := "loop.example/sepkernel/laws.FnSetupNumbers", spec := "fnSetupNumbers", unfollowed := true, recurses := true, apart := false, narrowed := true }
def FnSetupNumbersUptoSaid : Prop := fnSetupNumbersUptoRow.holds Try.pinned (OpenSpec.upto fnSetupNumbersSpec)

/-- 'laws.FnReadSetup', WHERE WHAT IT READS IS OF BULK AT MOST 1048576: true; the input reads as it did. -/
def fnReadSetupUptoRow : OpenClaim := { program := "ytiepblmmldgmgaa", sum := "9a091f8fa9e9421c3e9cc49ecdb2c69a4056371c8faebcc3e8d5728e2a9df8ba", func := "loop.example/sepkernel/laws.FnReadSetup", spec := "fnReadSetup", unfollowed := true, recurses := true, apart := false, narrowed := true }
def FnReadSetupUptoSaid : Prop := fnReadSetupUptoRow.holds Try.pinned (OpenSpec.upto fnReadSetupSpec)

/-- 'laws.FnLeastPolicy', WHERE WHAT IT READS IS OF BULK AT MOST 1048576: true; the input reads as it did. -/
def fnLeastPolicyUptoRow : OpenClaim := { program := "ytiepblmmldgmgaa", sum := "9a091f8fa9e9421c3e9cc49ecdb2c69a4056371c8faebcc3e8d5728e2a9df8ba", func := "loop.example/sepkernel/laws.FnLeastPolicy", spec := "fnLeastPolicy", unfollowed := true, recurses := true, apart := false, narrowed := true }
def FnLeastPolicyUptoSaid : Prop := fnLeastPolicyUptoRow.holds Try.pinned (OpenSpec.upto fnLeastPolicySpec)

/-- 'laws.FnPolicyGaps', WHERE WHAT IT READS IS OF BULK AT MOST 1048576: true; the input reads as it did. -/
def fnPolicyGapsUptoRow : OpenClaim := { program := "ytiepblmmldgmgaa", sum := "9a091f8fa9e9421c3e9cc49ecdb2c69a4056371c8faebcc3e8d5728e2a9df8ba", func := "loop.example/sepkernel/laws.FnPolicyGaps", spec := "fnPolicyGaps", unfollowed := true, recurses := true, apart := false, narrowed := true }
def FnPolicyGapsUptoSaid : Prop := fnPolicyGapsUptoRow.holds Try.pinned (OpenSpec.upto fnPolicyGapsSpec)

/-- 'laws.FnSealSetup', WHERE WHAT IT READS IS OF BULK AT MOST 1048576: true; the input reads as it did. -/
def fnSealSetupUptoRow : OpenClaim := { program := "ytiepblmmldgmgaa", sum := "9a091f8fa9e9421c3e9cc49ecdb2c69a4056371c8faebcc3e8d5728e2a9df8ba", func := "loop.example/sepkernel/laws.FnSealSetup", spec := "fnSealSetup", unfollowed := true, recurses := true, apart := false, narrowed := true }
def FnSealSetupUptoSaid : Prop := fnSealSetupUptoRow.holds Try.pinned (OpenSpec.upto fnSealSetupSpec)

/-- 'laws.FnOpenSetup', WHERE WHAT IT READS IS OF BULK AT MOST 1048576: true; the input reads as it did. -/
def fnOpenSetupUptoRow : OpenClaim := { program := "ytiepblmmldgmgaa", sum := "9a091f8fa9e9421c3e9cc49ecdb2c69a4056371c8faebcc3e8d5728e2a9df8ba", func := "loop.example/sepkernel/laws.FnOpenSetup", spec := "fnOpenSetup", unfollowed := true, recurses := true, apart := false, narrowed := true }
def FnOpenSetupUptoSaid : Prop := fnOpenSetupUptoRow.holds Try.pinned (OpenSpec.upto fnOpenSetupSpec)

end Rows
end Go.Proofs.Ytiepblmmldgmgaa
