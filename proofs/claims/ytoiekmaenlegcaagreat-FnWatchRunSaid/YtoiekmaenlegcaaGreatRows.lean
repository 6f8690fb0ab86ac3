/-
  No cell of these rows narrows 'for every input' (looked for: loops, veiled, ifaces, maps, wideKeys, modest, calm, conditions, laid).
  DERIVED. THE GIVEN ROWS OF THIS SEAT. 3 by the template 'for every input the law returns true; each argument reads behind the call as it read before'; 0 by the template 'total and deterministic' (their statements: YtoiekmaenlegcaaGreatTotals.lean).
  GIVEN WITH THE SEED: the statements are not yours to turn. If you find one false, say at which input.
  Laid BY PROGRAM, IN A SANDBOX (cutbox-rows.mjs): the forced cells as the released guide's own fill.sh prints them over the translation 5d8a7c6939b4da6e… (all of the seat's roots in one cut). By AI agents, Wed Nov 11 2026. No macro, syntax, notation, axiom, sorry.
-/
import Derived.Test.YtoiekmaenlegcaaGreatChecked
import GoSem.Claim
import GoSem.ClaimJoined
import GoSem.ClaimMapViews
import Derived.JoinedTies
import Derived.KernelRfl
namespace Go.Proofs.YtoiekmaenlegcaaGreat
/- THE CELL 'sum', in the pinned program and in every row, IS THE sha256 OF THE DUMP (.gsa) THAT YtoiekmaenlegcaaGreatProg.lean LOADS. Nothing in Lean hashes anything: it is a label: what it is worth is what the hold of that sum in a sandbox is worth. -/
noncomputable def Tryz.pinned : Pinned := { name := "ytoiekmaenlegcaagreat", sum := "5d8a7c6939b4da6ed03d8e24b618fe998aa48f6e431d9a245da2ba0e6175b444", checked := Tryz.checked }
namespace Rows
def none {H : Type} : Left H := { results := [], args := [] }

/-- 'laws.FnWatchFault': WHATEVER THE INPUT: true; the input reads as it did. -/
def fnWatchFaultSpec : ChangeSpec := { name := "fnWatchFault", fn := fun _ => fun
  | [d] => { results := [.lit (.bool true)], args := [d] }
  | _ => none }
def fnWatchFaultRow : OpenClaim := { program := "ytoiekmaenlegcaagreat", sum := "5d8a7c6939b4da6ed03d8e24b618fe998aa48f6e431d9a245da2ba0e6175b444", func := "loop.example/sepkernel/laws.FnWatchFault", spec := "fnWatchFault", unfollowed := true, recurses := true, apart := false }
def FnWatchFaultSaid : Prop := fnWatchFaultRow.holds Tryz.pinned (OpenSpec.ofChange fnWatchFaultSpec)

/-- ITS FALSE NEIGHBOUR: 'it returns false'. Refute it at one input. -/
def fnWatchFaultWrong : ChangeSpec := { name := "fnWatchFault", fn := fun _ => fun
  | [d] => { results := [.lit (.bool false)], args := [d] }
  | _ => none }
def FnWatchFaultWrongFalsely : Prop := fnWatchFaultRow.holds Tryz.pinned (OpenSpec.ofChange fnWatchFaultWrong)

/-- 'laws.FnWatchTick': WHATEVER THE INPUT: true; the input reads as it did. -/
def fnWatchTickSpec : ChangeSpec := { name := "fnWatchTick", fn := fun _ => fun
  | [d] => { results := [.lit (.bool true)], args := [d] }
  | _ => none }
def fnWatchTickRow : OpenClaim := { program := "ytoiekmaenlegcaagreat", sum := "5d8a7c6939b4da6ed03d8e24b618fe998aa48f6e431d9a245da2ba0e6175b444", func := "loop.example/sepkernel/laws.FnWatchTick", spec := "fnWatchTick", unfollowed := true, recurses := true, apart := false }
def FnWatchTickSaid : Prop := fnWatchTickRow.holds Tryz.pinned (OpenSpec.ofChange fnWatchTickSpec)

/-- ITS FALSE NEIGHBOUR: 'it returns false'. Refute it at one input. -/
def fnWatchTickWrong : ChangeSpec := { name := "fnWatchTick", fn := fun _ => fun
  | [d] => { results := [.lit (.bool false)], args := [d] }
  | _ => none }
def FnWatchTickWrongFalsely : Prop := fnWatchTickRow.holds Tryz.pinned (OpenSpec.ofChange fnWatchTickWrong)

/-- 'laws.FnWatchRun': WHATEVER THE INPUT: true; the input reads as it did. -/
def fnWatchRunSpec : ChangeSpec := { name := "fnWatchRun", fn := fun _ => fun
  | [d] => { results := [.lit (.bool true)], args := [d] }
  | _ => none }
def fnWatchRunRow : OpenClaim := { program := "ytoiekmaenlegcaagreat", sum := "5d8a7c6939b4da6ed03d8e24b618fe998aa48f6e431d9a245da2ba0e6175b444", func := "loop.example/sepkernel/laws.FnWatchRun", spec := "fnWatchRun", unfollowed := true, recurses := true, apart := false }
def FnWatchRunSaid : Prop := fnWatchRunRow.holds Tryz.pinned (OpenSpec.ofChange fnWatchRunSpec)

/-- ITS FALSE NEIGHBOUR: 'it returns false'. Refute it at one input. -/
def fnWatchRunWrong : ChangeSpec := { name := "fnWatchRun", fn := fun _ => fun
  | [d] => { results := [.lit (.bool false)], args := [d] }
  | _ => none }
def FnWatchRunWrongFalsely : Prop := fnWatchRunRow.holds Tryz.pinned (OpenSpec.ofChange fnWatchRunWrong)

/- THE SECOND FORM. 'bulk': how many values and letters a reading holds, each counted each time it is reached (what is shared counts as often as it is met; a slice's spare places count too). A statement '..UptoSaid' is the law's where the arguments, and the package variables that the reading takes, are together of bulk at most 1048576: NARROWER than '..Said'. Prove '..Said' where nothing that the law and all that it calls make is longer than what came in: it says more and counts as full. Else prove '..UptoSaid'. A law counts once. -/
mutual
def uptoBulk {H : Type} : DataW H → Nat
  | .lit (.string bytes) => bytes.length + 1
  | .lit _ => 1
  | .nil => 1
  | .ptr d => uptoBulk d + 1
  | .slice elems spare => uptoBulkAll elems + uptoBulkAll spare + 1
  | .agg parts => uptoBulkAll parts + 1
  | .iface _ d => uptoBulk d + 1
  | .map entries => uptoBulkEntries entries + 1
  | .held _ => 1
def uptoBulkAll {H : Type} : List (DataW H) → Nat
  | [] => 0
  | d :: r => uptoBulk d + uptoBulkAll r
def uptoBulkEntries {H : Type} : List (Lit × DataW H) → Nat
  | [] => 0
  | x :: r => uptoBulkEntry x + uptoBulkEntries r
def uptoBulkEntry {H : Type} : Lit × DataW H → Nat
  | (.string bytes, d) => bytes.length + uptoBulk d + 1
  | (_, d) => uptoBulk d + 1
 end
def uptoSmall : (H : Type) → List (DataW H) → Bool := fun _ ds => decide (uptoBulkAll ds ≤ 1048576)
def OpenSpec.upto (s : _root_.Go.ChangeSpec) : _root_.Go.OpenSpec := { _root_.Go.OpenSpec.ofChange s with cond := some uptoSmall }

/-- 'laws.FnWatchFault', WHERE WHAT IT READS IS OF BULK AT MOST 1048576: true; the input reads as it did. -/
def fnWatchFaultUptoRow : OpenClaim := { program := "ytoiekmaenlegcaagreat", sum := "5d8a7c6939b4da6ed03d8e24b618fe998aa48f6e431d9a245da2ba0e6175b444", func := "loop.example/sepkernel/laws.FnWatchFault", spec := "fnWatchFault", unfollowed := true, recurses := true, apart := false, narrowed := true }
def FnWatchFaultUptoSaid : Prop := fnWatchFaultUptoRow.holds Tryz.pinned (OpenSpec.upto fnWatchFaultSpec)

/-- 'laws.FnWatchTick', WHERE WHAT IT READS IS OF BULK AT MOST 1048576: true; the input reads as it did. -/
def fnWatchTickUptoRow : OpenClaim := { program := "ytoiekmaenlegcaagreat", sum := "5d8a7c6939b4da6ed03d8e24b618fe998aa48f6e431d9a245da2ba0e6175b444", func := "loop.example/sepkernel/laws.FnWatchTick", spec := "fnWatchTick", unfollowed := true, recurses := true, apart := false, narrowed := true }
def FnWatchTickUptoSaid : Prop := fnWatchTickUptoRow.holds Tryz.pinned (OpenSpec.upto fnWatchTickSpec)

/-- 'laws.FnWatchRun', WHERE WHAT IT READS IS OF BULK AT MOST 1048576: true; the input reads as it did. -/
def fnWatchRunUptoRow : OpenClaim := { program := "ytoiekmaenlegcaagreat", sum := "5d8a7c6939b4da6ed03d8e24b618fe998aa48f6e431d9a245da2ba0e6175b444", func := "loop.example/sepkernel/laws.FnWatchRun", spec := "fnWatchRun", unfollowed := true, recurses := true, apart := false, narrowed := true }
def FnWatchRunUptoSaid : Prop := fnWatchRunUptoRow.holds Tryz.pinned (OpenSpec.upto fnWatchRunSpec)

end Rows
end Go.Proofs.YtoiekmaenlegcaaGreat
