/-
  No cell of these rows narrows 'for every input' (looked for: loops, veiled, ifaces, maps, wideKeys, modest, calm, conditions, laid).
  DERIVED. THE GIVEN ROWS OF THIS SEAT. 4 by the template 'for every input the law returns true; each argument reads behind the call as it read before'; 0 by the template 'total and deterministic' (their statements: YtobfbjgflnhjpaaGreatTotals.lean).
  GIVEN WITH THE SEED: the statements are not yours to turn. If you find one false, say at which input.
  Laid BY PROGRAM, IN A SANDBOX (cutbox-rows.mjs): the forced cells as the released guide's own fill.sh prints them over the translation 799a44d473b67e89… (all of the seat's roots in one cut). By AI agents, Wed Nov 11 2026. No macro, syntax, notation, axiom, sorry.
-/
import Derived.Test.YtobfbjgflnhjpaaGreatChecked
import GoSem.Claim
import GoSem.ClaimJoined
import GoSem.ClaimMapViews
import Derived.JoinedTies
import Derived.KernelRfl
namespace Go.Proofs.YtobfbjgflnhjpaaGreat
/- THE CELL 'sum', in the pinned program and in every row, IS THE sha256 OF THE DUMP (.gsa) THAT YtobfbjgflnhjpaaGreatProg.lean LOADS. Nothing in Lean hashes anything: it is a label: what it is worth is what the hold of that sum in a sandbox is worth. -/
noncomputable def Tryz.pinned : Pinned := { name := "ytobfbjgflnhjpaagreat", sum := "799a44d473b67e89aacf9b8bde260a358ce7d42be6274bb4467fc43542230bd3", checked := Tryz.checked }
namespace Rows
def none {H : Type} : Left H := { results := [], args := [] }

/-- 'laws.FnExactBoardValid': WHATEVER THE INPUT: true; the input reads as it did. -/
def fnExactBoardValidSpec : ChangeSpec := { name := "fnExactBoardValid", fn := fun _ => fun
  | [d] => { results := [.lit (.bool true)], args := [d] }
  | _ => none }
def fnExactBoardValidRow : OpenClaim := { program := "ytobfbjgflnhjpaagreat", sum := "799a44d473b67e89aacf9b8bde260a358ce7d42be6274bb4467fc43542230bd3", func := "loop.example/sepkernel/laws.FnExactBoardValid", spec := "fnExactBoardValid", unfollowed := true, recurses := true, apart := false }
def FnExactBoardValidSaid : Prop := fnExactBoardValidRow.holds Tryz.pinned (OpenSpec.ofChange fnExactBoardValidSpec)

/-- ITS FALSE NEIGHBOUR: 'it returns false'. Refute it at one input. -/
def fnExactBoardValidWrong : ChangeSpec := { name := "fnExactBoardValid", fn := fun _ => fun
  | [d] => { results := [.lit (.bool false)], args := [d] }
  | _ => none }
def FnExactBoardValidWrongFalsely : Prop := fnExactBoardValidRow.holds Tryz.pinned (OpenSpec.ofChange fnExactBoardValidWrong)

/-- 'laws.FnExactNewMachine': WHATEVER THE INPUT: true; the input reads as it did. -/
def fnExactNewMachineSpec : ChangeSpec := { name := "fnExactNewMachine", fn := fun _ => fun
  | [d1, d2] => { results := [.lit (.bool true)], args := [d1, d2] }
  | _ => none }
def fnExactNewMachineRow : OpenClaim := { program := "ytobfbjgflnhjpaagreat", sum := "799a44d473b67e89aacf9b8bde260a358ce7d42be6274bb4467fc43542230bd3", func := "loop.example/sepkernel/laws.FnExactNewMachine", spec := "fnExactNewMachine", unfollowed := true, recurses := true, apart := false }
def FnExactNewMachineSaid : Prop := fnExactNewMachineRow.holds Tryz.pinned (OpenSpec.ofChange fnExactNewMachineSpec)

/-- ITS FALSE NEIGHBOUR: 'it returns false'. Refute it at one input. -/
def fnExactNewMachineWrong : ChangeSpec := { name := "fnExactNewMachine", fn := fun _ => fun
  | [d1, d2] => { results := [.lit (.bool false)], args := [d1, d2] }
  | _ => none }
def FnExactNewMachineWrongFalsely : Prop := fnExactNewMachineRow.holds Tryz.pinned (OpenSpec.ofChange fnExactNewMachineWrong)

/-- 'laws.FnExactRestartPart': WHATEVER THE INPUT: true; the input reads as it did. -/
def fnExactRestartPartSpec : ChangeSpec := { name := "fnExactRestartPart", fn := fun _ => fun
  | [d1, d2] => { results := [.lit (.bool true)], args := [d1, d2] }
  | _ => none }
def fnExactRestartPartRow : OpenClaim := { program := "ytobfbjgflnhjpaagreat", sum := "799a44d473b67e89aacf9b8bde260a358ce7d42be6274bb4467fc43542230bd3", func := "loop.example/sepkernel/laws.FnExactRestartPart", spec := "fnExactRestartPart", unfollowed := true, recurses := true, apart := false }
def FnExactRestartPartSaid : Prop := fnExactRestartPartRow.holds Tryz.pinned (OpenSpec.ofChange fnExactRestartPartSpec)

/-- ITS FALSE NEIGHBOUR: 'it returns false'. Refute it at one input. -/
def fnExactRestartPartWrong : ChangeSpec := { name := "fnExactRestartPart", fn := fun _ => fun
  | [d1, d2] => { results := [.lit (.bool false)], args := [d1, d2] }
  | _ => none }
def FnExactRestartPartWrongFalsely : Prop := fnExactRestartPartRow.holds Tryz.pinned (OpenSpec.ofChange fnExactRestartPartWrong)

/-- 'laws.FnExactNewWatch': WHATEVER THE INPUT: true; the input reads as it did. -/
def fnExactNewWatchSpec : ChangeSpec := { name := "fnExactNewWatch", fn := fun _ => fun
  | [d] => { results := [.lit (.bool true)], args := [d] }
  | _ => none }
def fnExactNewWatchRow : OpenClaim := { program := "ytobfbjgflnhjpaagreat", sum := "799a44d473b67e89aacf9b8bde260a358ce7d42be6274bb4467fc43542230bd3", func := "loop.example/sepkernel/laws.FnExactNewWatch", spec := "fnExactNewWatch", unfollowed := true, recurses := true, apart := false }
def FnExactNewWatchSaid : Prop := fnExactNewWatchRow.holds Tryz.pinned (OpenSpec.ofChange fnExactNewWatchSpec)

/-- ITS FALSE NEIGHBOUR: 'it returns false'. Refute it at one input. -/
def fnExactNewWatchWrong : ChangeSpec := { name := "fnExactNewWatch", fn := fun _ => fun
  | [d] => { results := [.lit (.bool false)], args := [d] }
  | _ => none }
def FnExactNewWatchWrongFalsely : Prop := fnExactNewWatchRow.holds Tryz.pinned (OpenSpec.ofChange fnExactNewWatchWrong)

/- THE SECOND FORM. 'bulk': how many values and letters a reading holds, each counted each time it is reached (what is shared counts as often as it is met; a slice's spare places count too). A statement '..UptoSaid' is the law's where the arguments, and the package variables that the reading takes, are together of bulk at most 1048576: NARROWER than '..Said'. Prove '..Said' where nothing that the law and all that it calls make is longer than what came in: it says more and counts as full. Else prove '..UptoSaid'. A law counts once. -/
mutual
def uptoBulk {H : Type} : DataW H → Nat
  | .lit (.string bytes) => bytes.length + 1
  | .lit _ => 1
  | .nil => 1
  | .ptr d => uptoBulk d + 1
  | .slice elems spare => uptoBulkAll elems + uptoBulkAll spare + 1
  | .agg parts => uptoBulkAll parts + 1
  | .iface _ d => uptoBulk d + 1
  | .map entries => uptoBulkEntries entries + 1
  | .held _ => 1
def uptoBulkAll {H : Type} : List (DataW H) → Nat
  | [] => 0
  | d :: r => uptoBulk d + uptoBulkAll r
def uptoBulkEntries {H : Type} : List (Lit × DataW H) → Nat
  | [] => 0
  | x :: r => uptoBulkEntry x + uptoBulkEntries r
def uptoBulkEntry {H : Type} : Lit × DataW H → Nat
  | (.string bytes, d) => bytes.length + uptoBulk d + 1
  | (_, d) => uptoBulk d + 1
 end
def uptoSmall : (H : Type) → List (DataW H) → Bool := fun _ ds => decide (uptoBulkAll ds ≤ 1048576)
def OpenSpec.upto (s : _root_.Go.ChangeSpec) : _root_.Go.OpenSpec := { _root_.Go.OpenSpec.ofChange s with cond := some uptoSmall }

/-- 'laws.FnExactBoardValid', WHERE WHAT IT READS IS OF BULK AT MOST 1048576: true; the input reads as it did. -/
def fnExactBoardValidUptoRow : OpenClaim := { program := "ytobfbjgflnhjpaagreat", sum := "799a44d473b67e89aacf9b8bde260a358ce7d42be6274bb4467fc43542230bd3", func := "loop.example/sepkernel/laws.FnExactBoardValid", spec := "fnExactBoardValid", unfollowed := true, recurses := true, apart := false, narrowed := true }
def FnExactBoardValidUptoSaid : Prop := fnExactBoardValidUptoRow.holds Tryz.pinned (OpenSpec.upto fnExactBoardValidSpec)

/-- 'laws.FnExactNewMachine', WHERE WHAT IT READS IS OF BULK AT MOST 1048576: true; the input reads as it did. -/
def fnExactNewMachineUptoRow : OpenClaim := { program := "ytobfbjgflnhjpaagreat", sum := "799a44d473b67e89aacf9b8bde260a358ce7d42be6274bb4467fc43542230bd3", func := "loop.example/sepkernel/laws.FnExactNewMachine", spec := "fnExactNewMachine", unfollowed := true, recurses := true, apart := false, narrowed := true }
def FnExactNewMachineUptoSaid : Prop := fnExactNewMachineUptoRow.holds Tryz.pinned (OpenSpec.upto fnExactNewMachineSpec)

/-- 'laws.FnExactRestartPart', WHERE WHAT IT READS IS OF BULK AT MOST 1048576: true; the input reads as it did. -/
def fnExactRestartPartUptoRow : OpenClaim := { program := "ytobfbjgflnhjpaagreat", sum := "799a44d473b67e89aacf9b8bde260a358ce7d42be6274bb4467fc43542230bd3", func := "loop.example/sepkernel/laws.FnExactRestartPart", spec := "fnExactRestartPart", unfollowed := true, recurses := true, apart := false, narrowed := true }
def FnExactRestartPartUptoSaid : Prop := fnExactRestartPartUptoRow.holds Tryz.pinned (OpenSpec.upto fnExactRestartPartSpec)

/-- 'laws.FnExactNewWatch', WHERE WHAT IT READS IS OF BULK AT MOST 1048576: true; the input reads as it did. -/
def fnExactNewWatchUptoRow : OpenClaim := { program := "ytobfbjgflnhjpaagreat", sum := "799a44d473b67e89aacf9b8bde260a358ce7d42be6274bb4467fc43542230bd3", func := "loop.example/sepkernel/laws.FnExactNewWatch", spec := "fnExactNewWatch", unfollowed := true, recurses := true, apart := false, narrowed := true }
def FnExactNewWatchUptoSaid : Prop := fnExactNewWatchUptoRow.holds Tryz.pinned (OpenSpec.upto fnExactNewWatchSpec)

end Rows
end Go.Proofs.YtobfbjgflnhjpaaGreat
