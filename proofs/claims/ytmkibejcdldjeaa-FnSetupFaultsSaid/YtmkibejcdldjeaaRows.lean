/-
  No cell of these rows narrows 'for every input' (looked for: loops, veiled, ifaces, maps, wideKeys, modest, calm, conditions, laid).
  DERIVED. THE GIVEN ROWS OF THIS SEAT. 4 by the template 'for every input the law returns true; each argument reads behind the call as it read before'; 0 by the template 'total and deterministic' (their statements: YtmkibejcdldjeaaTotals.lean).
  GIVEN WITH THE SEED: the statements are not yours to turn. If you find one false, say at which input.
  Laid BY PROGRAM, IN A SANDBOX (cutbox-rows.mjs): the forced cells as the released guide's own fill.sh prints them over the translation c774040aeffbbdd9… (all of the seat's roots in one cut). By AI agents, Wed Nov 11 2026. No macro, syntax, notation, axiom, sorry.
-/
import Derived.Test.YtmkibejcdldjeaaChecked
import GoSem.Claim
import GoSem.ClaimJoined
import GoSem.ClaimMapViews
import Derived.JoinedTies
import Derived.KernelRfl
namespace Go.Proofs.Ytmkibejcdldjeaa
/- THE CELL 'sum', in the pinned program and in every row, IS THE sha256 OF THE DUMP (.gsa) THAT YtmkibejcdldjeaaProg.lean LOADS. Nothing in Lean hashes anything: it is a label: what it is worth is what the hold of that sum in a sandbox is worth. -/
noncomputable def Try.pinned : Pinned := { name := "ytmkibejcdldjeaa", sum := "c774040aeffbbdd9c02eb858cad8b62f5d47d185ce3a59627b1251c5600b915b", checked := Try.checked }
namespace Rows
def none {H : Type} : Left H := { results := [], args := [] }

/-- 'laws.FnCutChannels': WHATEVER THE INPUT: true; the input reads as it did. -/
def fnCutChannelsSpec : ChangeSpec := { name := "fnCutChannels", fn := fun _ => fun
  | [d] => { results := [.lit (.bool true)], args := [d] }
  | _ => none }
def fnCutChannelsRow : OpenClaim := { program := "ytmkibejcdldjeaa", sum := "c774040aeffbbdd9c02eb858cad8b62f5d47d185ce3a59627b1251c5600b915b", func := "loop.example/sepkernel/laws.FnCutChannels", spec := "fnCutChannels", unfollowed := true, recurses := true, apart := false }
def FnCutChannelsSaid : Prop := fnCutChannelsRow.holds Try.pinned (OpenSpec.ofChange fnCutChannelsSpec)

/-- ITS FALSE NEIGHBOUR: 'it returns false'. Refute it at one input. -/
def fnCutChannelsWrong : ChangeSpec := { name := "fnCutChannels", fn := fun _ => fun
  | [d] => { results := [.lit (.bool false)], args := [d] }
  | _ => none }
def FnCutChannelsWrongFalsely : Prop := fnCutChannelsRow.holds Try.pinned (OpenSpec.ofChange fnCutChannelsWrong)

/-- 'laws.FnPolicyAll': WHATEVER THE INPUT: true; the input reads as it did. -/
def fnPolicyAllSpec : ChangeSpec := { name := "fnPolicyAll", fn := fun _ => fun
  | [d] => { results := [.lit (.bool true)], args := [d] }
  | _ => none }
def fnPolicyAllRow : OpenClaim := { program := "ytmkibejcdldjeaa", sum := "c774040aeffbbdd9c02eb858cad8b62f5d47d185ce3a59627b1251c5600b915b", func := "loop.example/sepkernel/laws.FnPolicyAll", spec := "fnPolicyAll", unfollowed := true, recurses := true, apart := false }
def FnPolicyAllSaid : Prop := fnPolicyAllRow.holds Try.pinned (OpenSpec.ofChange fnPolicyAllSpec)

/-- ITS FALSE NEIGHBOUR: 'it returns false'. Refute it at one input. -/
def fnPolicyAllWrong : ChangeSpec := { name := "fnPolicyAll", fn := fun _ => fun
  | [d] => { results := [.lit (.bool false)], args := [d] }
  | _ => none }
def FnPolicyAllWrongFalsely : Prop := fnPolicyAllRow.holds Try.pinned (OpenSpec.ofChange fnPolicyAllWrong)

/-- 'laws.FnSetupFaults': WHATEVER THE INPUT: true; the input reads as it did. -/
def fnSetupFaultsSpec : ChangeSpec := { name := "fnSetupFaults", fn := fun _ => fun
  | [d] => { results := [.lit (.bool true)], args := [d] }
  | _ => none }
def fnSetupFaultsRow : OpenClaim := { program := "ytmkibejcdldjeaa", sum := "c774040aeffbbdd9c02eb858cad8b62f5d47d185ce3a59627b1251c5600b915b", func := "loop.example/sepkernel/laws.FnSetupFaults", spec := "fnSetupFaults", unfollowed := true, recurses := true, apart := false }
def FnSetupFaultsSaid : Prop := fnSetupFaultsRow.holds Try.pinned (OpenSpec.ofChange fnSetupFaultsSpec)

/-- ITS FALSE NEIGHBOUR: 'it returns false'. Refute it at one input. -/
def fnSetupFaultsWrong : ChangeSpec := { name := "fnSetupFaults", fn := fun _ => fun
  | [d] => { results := [.lit (.bool false)], args := [d] }
  | _ => none }
def FnSetupFaultsWrongFalsely : Prop := fnSetupFaultsRow.holds Try.pinned (OpenSpec.ofChange fnSetupFaultsWrong)

/-- 'laws.FnSetupGuarded': WHATEVER THE INPUT: true; the input reads as it did. -/
def fnSetupGuardedSpec : ChangeSpec := { name := "fnSetupGuarded", fn := fun _ => fun
  | [d] => { results := [.lit (.bool true)], args := [d] }
  | _ => none }
def fnSetupGuardedRow : OpenClaim := { program := "ytmkibejcdldjeaa", sum := "c774040aeffbbdd9c02eb858cad8b62f5d47d185ce3a59627b1251c5600b915b", func := "loop.example/sepkernel/laws.FnSetupGuarded", spec := "fnSetupGuarded", unfollowed := true, recurses := true, apart := false }
def FnSetupGuardedSaid : Prop := fnSetupGuardedRow.holds Try.pinned (OpenSpec.ofChange fnSetupGuardedSpec)

/-- ITS FALSE NEIGHBOUR: 'it returns false'. Refute it at one input. -/
def fnSetupGuardedWrong : ChangeSpec := { name := "fnSetupGuarded", fn := fun _ => fun
  | [d] => { results := [.lit (.bool false)], args := [d] }
  | _ => none }
def FnSetupGuardedWrongFalsely : Prop := fnSetupGuardedRow.holds Try.pinned (OpenSpec.ofChange fnSetupGuardedWrong)

/- THE SECOND FORM. 'bulk': how many values and letters a reading holds, each counted each time it is reached (what is shared counts as often as it is met; a slice's spare places count too). A statement '..UptoSaid' is the law's where the arguments, and the package variables that the reading takes, are together of bulk at most 1048576: NARROWER than '..Said'. Prove '..Said' where nothing that the law and all that it calls make is longer than what came in: it says more and counts as full. Else prove '..UptoSaid'. A law counts once. -/
mutual
def uptoBulk {H : Type} : DataW H → Nat
  | .lit (.string bytes) => bytes.length + 1
  | .lit _ => 1
  | .nil => 1
  | .ptr d => uptoBulk d + 1
  | .slice elems spare => uptoBulkAll elems + uptoBulkAll spare + 1
  | .agg parts => uptoBulkAll parts + 1
  | .iface _ d => uptoBulk d + 1
  | .map entries => uptoBulkEntries entries + 1
  | .held _ => 1
def uptoBulkAll {H : Type} : List (DataW H) → Nat
  | [] => 0
  | d :: r => uptoBulk d + uptoBulkAll r
def uptoBulkEntries {H : Type} : List (Lit × DataW H) → Nat
  | [] => 0
  | x :: r => uptoBulkEntry x + uptoBulkEntries r
def uptoBulkEntry {H : Type} : Lit × DataW H → Nat
  | (.string bytes, d) => bytes.length + uptoBulk d + 1
  | (_, d) => uptoBulk d + 1
 end
def uptoSmall : (H : Type) → List (DataW H) → Bool := fun _ ds => decide (uptoBulkAll ds ≤ 1048576)
def OpenSpec.upto (s : _root_.Go.ChangeSpec) : _root_.Go.OpenSpec := { _root_.Go.OpenSpec.ofChange s with cond := some uptoSmall }

/-- 'laws.FnCutChannels', WHERE WHAT IT READS IS OF BULK AT MOST 1048576: true; the input reads as it did. -/
def fnCutChannelsUptoRow : OpenClaim := { program := "ytmkibejcdldjeaa", sum := "c774040aeffbbdd9c02eb858cad8b62f5d47d185ce3a59627b1251c5600b915b", func := "loop.example/sepkernel/laws.FnCutChannels", spec := "fnCutChannels", unfollowed := true, recurses := true, apart := false, narrowed := true }
def FnCutChannelsUptoSaid : Prop := fnCutChannelsUptoRow.holds Try.pinned (OpenSpec.upto fnCutChannelsSpec)

/-- 'laws.FnPolicyAll', WHERE WHAT IT READS IS OF BULK AT MOST 1048576: true; the input reads as it did. -/
def fnPolicyAllUptoRow : OpenClaim := { program := "ytmkibejcdldjeaa", sum := "c774040aeffbbdd9c02eb858cad8b62f5d47d185ce3a59627b1251c5600b915b", func := "loop.example/sepkernel/laws.FnPolicyAll", spec := "fnPolicyAll", unfollowed := true, recurses := true, apart := false, narrowed := true }
def FnPolicyAllUptoSaid : Prop := fnPolicyAllUptoRow.holds Try.pinned (OpenSpec.upto fnPolicyAllSpec)

/-- 'laws.FnSetupFaults', WHERE WHAT IT READS IS OF BULK AT MOST 1048576: true; the input reads as it did. -/
def fnSetupFaultsUptoRow : OpenClaim := { program := "ytmkibejcdldjeaa", sum := "c774040aeffbbdd9c02eb858cad8b62f5d47d185ce3a59627b1251c5600b915b", func := "loop.example/sepkernel/laws.FnSetupFaults", spec := "fnSetupFaults", unfollowed := true, recurses := true, apart := false, narrowed := true }
def FnSetupFaultsUptoSaid : Prop := fnSetupFaultsUptoRow.holds Try.pinned (OpenSpec.upto fnSetupFaultsSpec)

/-- 'laws.FnSetupGuarded', WHERE WHAT IT READS IS OF BULK AT MOST 1048576: true; the input reads as it did. -/
def fnSetupGuardedUptoRow : OpenClaim := { program := "ytmkibejcdldjeaa", sum := "c774040aeffbbdd9c02eb858cad8b62f5d47d185ce3a59627b1251c5600b915b", func := "loop.example/sepkernel/laws.FnSetupGuarded", spec := "fnSetupGuarded", unfollowed := true, recurses := true, apart := false, narrowed := true }
def FnSetupGuardedUptoSaid : Prop := fnSetupGuardedUptoRow.holds Try.pinned (OpenSpec.upto fnSetupGuardedSpec)

end Rows
end Go.Proofs.Ytmkibejcdldjeaa
