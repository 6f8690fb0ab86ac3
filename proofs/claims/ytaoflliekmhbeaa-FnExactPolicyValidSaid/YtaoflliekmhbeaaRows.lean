/-
  No cell of these rows narrows 'for every input' (looked for: loops, veiled, ifaces, maps, wideKeys, modest, calm, conditions, laid).
  DERIVED. THE GIVEN ROWS OF THIS SEAT. 4 by the template 'for every input the law returns true; each argument reads behind the call as it read before'; 0 by the template 'total and deterministic' (their statements: YtaoflliekmhbeaaTotals.lean).
  GIVEN WITH THE SEED: the statements are not yours to turn. If you find one false, say at which input.
  Laid BY PROGRAM, IN A SANDBOX (cutbox-rows.mjs): the forced cells as the released guide's own fill.sh prints them over the translation 56f95a0afac08ed0… (all of the seat's roots in one cut). By AI agents, Wed Nov 11 2026. No macro, syntax, notation, axiom, sorry.
-/
import Derived.Test.YtaoflliekmhbeaaChecked
import GoSem.Claim
import GoSem.ClaimJoined
import GoSem.ClaimMapViews
import Derived.JoinedTies
import Derived.KernelRfl
namespace Go.Proofs.Ytaoflliekmhbeaa
/- THE CELL 'sum', in the pinned program and in every row, IS THE sha256 OF THE DUMP (.gsa) THAT YtaoflliekmhbeaaProg.lean LOADS. Nothing in Lean hashes anything: it is a label: what it is worth is what the hold of that sum in a sandbox is worth. -/
noncomputable def Try.pinned : Pinned := { name := "ytaoflliekmhbeaa", sum := "56f95a0afac08ed0d2a2855cb140842e1574f67648a230eeb59b41e556f93e0f", checked := Try.checked }
namespace Rows
def none {H : Type} : Left H := { results := [], args := [] }

/-- 'laws.FnExactPolicyValid': WHATEVER THE INPUT: true; the input reads as it did. -/
def fnExactPolicyValidSpec : ChangeSpec := { name := "fnExactPolicyValid", fn := fun _ => fun
  | [d1, d2] => { results := [.lit (.bool true)], args := [d1, d2] }
  | _ => none }
def fnExactPolicyValidRow : OpenClaim := { program := "ytaoflliekmhbeaa", sum := "56f95a0afac08ed0d2a2855cb140842e1574f67648a230eeb59b41e556f93e0f", func := "loop.example/sepkernel/laws.FnExactPolicyValid", spec := "fnExactPolicyValid", apart := false }
def FnExactPolicyValidSaid : Prop := fnExactPolicyValidRow.holds Try.pinned (OpenSpec.ofChange fnExactPolicyValidSpec)

/-- ITS FALSE NEIGHBOUR: 'it returns false'. Refute it at one input. -/
def fnExactPolicyValidWrong : ChangeSpec := { name := "fnExactPolicyValid", fn := fun _ => fun
  | [d1, d2] => { results := [.lit (.bool false)], args := [d1, d2] }
  | _ => none }
def FnExactPolicyValidWrongFalsely : Prop := fnExactPolicyValidRow.holds Try.pinned (OpenSpec.ofChange fnExactPolicyValidWrong)

/-- 'laws.FnPolicyValid': WHATEVER THE INPUT: true; the input reads as it did. -/
def fnPolicyValidSpec : ChangeSpec := { name := "fnPolicyValid", fn := fun _ => fun
  | [d] => { results := [.lit (.bool true)], args := [d] }
  | _ => none }
def fnPolicyValidRow : OpenClaim := { program := "ytaoflliekmhbeaa", sum := "56f95a0afac08ed0d2a2855cb140842e1574f67648a230eeb59b41e556f93e0f", func := "loop.example/sepkernel/laws.FnPolicyValid", spec := "fnPolicyValid", unfollowed := true, recurses := true, apart := false }
def FnPolicyValidSaid : Prop := fnPolicyValidRow.holds Try.pinned (OpenSpec.ofChange fnPolicyValidSpec)

/-- ITS FALSE NEIGHBOUR: 'it returns false'. Refute it at one input. -/
def fnPolicyValidWrong : ChangeSpec := { name := "fnPolicyValid", fn := fun _ => fun
  | [d] => { results := [.lit (.bool false)], args := [d] }
  | _ => none }
def FnPolicyValidWrongFalsely : Prop := fnPolicyValidRow.holds Try.pinned (OpenSpec.ofChange fnPolicyValidWrong)

/-- 'laws.FnSetupNumbers': WHATEVER THE INPUT: true; the input reads as it did. -/
def fnSetupNumbersSpec : ChangeSpec := { name := "fnSetupNumbers", fn := fun _ => fun
  | [d] => { results := [.lit (.bool true)], args := [d] }
  | _ => none }
def fnSetupNumbersRow : OpenClaim := { program := "ytaoflliekmhbeaa", sum := "56f95a0afac08ed0d2a2855cb140842e1574f67648a230eeb59b41e556f93e0f", func := "loop.example/sepkernel/laws.FnSetupNumbers", spec := "fnSetupNumbers", unfollowed := true, recurses := true, apart := false }
def FnSetupNumbersSaid : Prop := fnSetupNumbersRow.holds Try.pinned (OpenSpec.ofChange fnSetupNumbersSpec)

/-- ITS FALSE NEIGHBOUR: 'it returns false'. Refute it at one input. -/
def fnSetupNumbersWrong : ChangeSpec := { name := "fnSetupNumbers", fn := fun _ => fun
  | [d] => { results := [.lit (.bool false)], args := [d] }
  | _ => none }
def FnSetupNumbersWrongFalsely : Prop := fnSetupNumbersRow.holds Try.pinned (OpenSpec.ofChange fnSetupNumbersWrong)

/-- 'laws.FnLeastPolicy': WHATEVER THE INPUT: true; the input reads as it did. -/
def fnLeastPolicySpec : ChangeSpec := { name := "fnLeastPolicy", fn := fun _ => fun
  | [d] => { results := [.lit (.bool true)], args := [d] }
  | _ => none }
def fnLeastPolicyRow : OpenClaim := { program := "ytaoflliekmhbeaa", sum := "56f95a0afac08ed0d2a2855cb140842e1574f67648a230eeb59b41e556f93e0f", func := "loop.example/sepkernel/laws.FnLeastPolicy", spec := "fnLeastPolicy", unfollowed := true, recurses := true, apart := false }
def FnLeastPolicySaid : Prop := fnLeastPolicyRow.holds Try.pinned (OpenSpec.ofChange fnLeastPolicySpec)

/-- ITS FALSE NEIGHBOUR: 'it returns false'. Refute it at one input. -/
def fnLeastPolicyWrong : ChangeSpec := { name := "fnLeastPolicy", fn := fun _ => fun
  | [d] => { results := [.lit (.bool false)], args := [d] }
  | _ => none }
def FnLeastPolicyWrongFalsely : Prop := fnLeastPolicyRow.holds Try.pinned (OpenSpec.ofChange fnLeastPolicyWrong)

/- THE SECOND FORM. 'bulk': how many values and letters a reading holds, each counted each time it is reached (what is shared counts as often as it is met; a slice's spare places count too). A statement '..UptoSaid' is the law's where the arguments, and the package variables that the reading takes, are together of bulk at most 1048576: NARROWER than '..Said'. Prove '..Said' where nothing that the law and all that it calls make is longer than what came in: it says more and counts as full. Else prove '..UptoSaid'. A law counts once. -/
mutual
def uptoBulk {H : Type} : DataW H → Nat
  | .lit (.string bytes) => bytes.length + 1
  | .lit _ => 1
  | .nil => 1
  | .ptr d => uptoBulk d + 1
  | .slice elems spare => uptoBulkAll elems + uptoBulkAll spare + 1
  | .agg parts => uptoBulkAll parts + 1
  | .iface _ d => uptoBulk d + 1
  | .map entries => uptoBulkEntries entries + 1
  | .held _ => 1
def uptoBulkAll {H : Type} : List (DataW H) → Nat
  | [] => 0
  | d :: r => uptoBulk d + uptoBulkAll r
def uptoBulkEntries {H : Type} : List (Lit × DataW H) → Nat
  | [] => 0
  | x :: r => uptoBulkEntry x + uptoBulkEntries r
def uptoBulkEntry {H : Type} : Lit × DataW H → Nat
  | (.string bytes, d) => bytes.length + uptoBulk d + 1
  | (_, d) => uptoBulk d + 1
 end
def uptoSmall : (H : Type) → List (DataW H) → Bool := fun _ ds => decide (uptoBulkAll ds ≤ 1048576)
def OpenSpec.upto (s : _root_.Go.ChangeSpec) : _root_.Go.OpenSpec := { _root_.Go.OpenSpec.ofChange s with cond := some uptoSmall }

/-- 'laws.FnExactPolicyValid', WHERE WHAT IT READS IS OF BULK AT MOST 1048576: true; the input reads as it did. -/
def fnExactPolicyValidUptoRow : OpenClaim := { program := "ytaoflliekmhbeaa", sum := "56f95a0afac08ed0d2a2855cb140842e1574f67648a230eeb59b41e556f93e0f", func := "loop.example/sepkernel/laws.FnExactPolicyValid", spec := "fnExactPolicyValid", apart := false, narrowed := true }
def FnExactPolicyValidUptoSaid : Prop := fnExactPolicyValidUptoRow.holds Try.pinned (OpenSpec.upto fnExactPolicyValidSpec)

/-- 'laws.FnPolicyValid', WHERE WHAT IT READS IS OF BULK AT MOST 1048576: true; the input reads as it did. -/
def fnPolicyValidUptoRow : OpenClaim := { program := "ytaoflliekmhbeaa", sum := "56f95a0afac08ed0d2a2855cb140842e1574f67648a230eeb59b41e556f93e0f", func := "loop.example/sepkernel/laws.FnPolicyValid", spec := "fnPolicyValid", unfollowed := true, recurses := true, apart := false, narrowed := true }
def FnPolicyValidUptoSaid : Prop := fnPolicyValidUptoRow.holds Try.pinned (OpenSpec.upto fnPolicyValidSpec)

/-- 'laws.FnSetupNumbers', WHERE WHAT IT READS IS OF BULK AT MOST 1048576: true; the input reads as it did. -/
def fnSetupNumbersUptoRow : OpenClaim := { program := "ytaoflliekmhbeaa", sum := "56f95a0afac08ed0d2a2855cb140842e1574f67648a230eeb59b41e556f93e0f", func := "loop.example/sepkernel/laws.FnSetupNumbers", spec := "fnSetupNumbers", unfollowed := true, recurses := true, apart := false, narrowed := true }
def FnSetupNumbersUptoSaid : Prop := fnSetupNumbersUptoRow.holds Try.pinned (OpenSpec.upto fnSetupNumbersSpec)

/-- 'laws.FnLeastPolicy', WHERE WHAT IT READS IS OF BULK AT MOST 1048576: true; the input reads as it did. -/
def fnLeastPolicyUptoRow : OpenClaim := { program := "ytaoflliekmhbeaa", sum := "56f95a0afac08ed0d2a2855cb140842e1574f67648a230eeb59b41e556f93e0f", func := "loop.example/sepkernel/laws.FnLeastPolicy", spec := "fnLeastPolicy", unfollowed := true, recurses := true, apart := false, narrowed := true }
def FnLeastPolicyUptoSaid : Prop := fnLeastPolicyUptoRow.holds Try.pinned (OpenSpec.upto fnLeastPolicySpec)

end Rows
end Go.Proofs.Ytaoflliekmhbeaa
