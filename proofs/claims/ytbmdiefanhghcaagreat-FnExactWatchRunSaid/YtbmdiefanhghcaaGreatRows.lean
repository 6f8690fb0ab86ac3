/-
  No cell of these rows narrows 'for every input' (looked for: loops, veiled, ifaces, maps, wideKeys, modest, calm, conditions, laid).
  DERIVED. THE GIVEN ROWS OF THIS SEAT. 5 by the template 'for every input the law returns true; each argument reads behind the call as it read before'; 0 by the template 'total and deterministic' (their statements: YtbmdiefanhghcaaGreatTotals.lean).
  GIVEN WITH THE SEED: the statements are not yours to turn. If you find one false, say at which input.
  Laid BY PROGRAM, IN A SANDBOX (cutbox-rows.mjs): the forced cells as the released guide's own fill.sh prints them over the translation 177c9badd7316020… (all of the seat's roots in one cut). By AI agents, Wed Nov 11 2026. No macro, syntax, notation, axiom, sorry.
-/
import Derived.Test.YtbmdiefanhghcaaGreatChecked
import GoSem.Claim
import GoSem.ClaimJoined
import GoSem.ClaimMapViews
import Derived.JoinedTies
import Derived.KernelRfl
namespace Go.Proofs.YtbmdiefanhghcaaGreat
/- THE CELL 'sum', in the pinned program and in every row, IS THE sha256 OF THE DUMP (.gsa) THAT YtbmdiefanhghcaaGreatProg.lean LOADS. Nothing in Lean hashes anything: it is a label: what it is worth is what the hold of that sum in a sandbox is worth. -/
noncomputable def Tryz.pinned : Pinned := { name := "ytbmdiefanhghcaagreat", sum := "177c9badd7316020206f9fb95736faba9e0ec077865b2b2dca78b9aa47506439", checked := Tryz.checked }
namespace Rows
def none {H : Type} : Left H := { results := [], args := [] }

/-- 'laws.FnExactWatchRun': WHATEVER THE INPUT: true; the input reads as it did. -/
def fnExactWatchRunSpec : ChangeSpec := { name := "fnExactWatchRun", fn := fun _ => fun
  | [d1, d2, d3] => { results := [.lit (.bool true)], args := [d1, d2, d3] }
  | _ => none }
def fnExactWatchRunRow : OpenClaim := { program := "ytbmdiefanhghcaagreat", sum := "177c9badd7316020206f9fb95736faba9e0ec077865b2b2dca78b9aa47506439", func := "loop.example/sepkernel/laws.FnExactWatchRun", spec := "fnExactWatchRun", unfollowed := true, recurses := true, apart := false }
def FnExactWatchRunSaid : Prop := fnExactWatchRunRow.holds Tryz.pinned (OpenSpec.ofChange fnExactWatchRunSpec)

/-- ITS FALSE NEIGHBOUR: 'it returns false'. Refute it at one input. -/
def fnExactWatchRunWrong : ChangeSpec := { name := "fnExactWatchRun", fn := fun _ => fun
  | [d1, d2, d3] => { results := [.lit (.bool false)], args := [d1, d2, d3] }
  | _ => none }
def FnExactWatchRunWrongFalsely : Prop := fnExactWatchRunRow.holds Tryz.pinned (OpenSpec.ofChange fnExactWatchRunWrong)

/-- 'laws.FnExactWatchTick': WHATEVER THE INPUT: true; the input reads as it did. -/
def fnExactWatchTickSpec : ChangeSpec := { name := "fnExactWatchTick", fn := fun _ => fun
  | [d1, d2] => { results := [.lit (.bool true)], args := [d1, d2] }
  | _ => none }
def fnExactWatchTickRow : OpenClaim := { program := "ytbmdiefanhghcaagreat", sum := "177c9badd7316020206f9fb95736faba9e0ec077865b2b2dca78b9aa47506439", func := "loop.example/sepkernel/laws.FnExactWatchTick", spec := "fnExactWatchTick", unfollowed := true, recurses := true, apart := false }
def FnExactWatchTickSaid : Prop := fnExactWatchTickRow.holds Tryz.pinned (OpenSpec.ofChange fnExactWatchTickSpec)

/-- ITS FALSE NEIGHBOUR: 'it returns false'. Refute it at one input. -/
def fnExactWatchTickWrong : ChangeSpec := { name := "fnExactWatchTick", fn := fun _ => fun
  | [d1, d2] => { results := [.lit (.bool false)], args := [d1, d2] }
  | _ => none }
def FnExactWatchTickWrongFalsely : Prop := fnExactWatchTickRow.holds Tryz.pinned (OpenSpec.ofChange fnExactWatchTickWrong)

/-- 'laws.FnExactBoardFrame': WHATEVER THE INPUT: true; the input reads as it did. -/
def fnExactBoardFrameSpec : ChangeSpec := { name := "fnExactBoardFrame", fn := fun _ => fun
  | [d] => { results := [.lit (.bool true)], args := [d] }
  | _ => none }
def fnExactBoardFrameRow : OpenClaim := { program := "ytbmdiefanhghcaagreat", sum := "177c9badd7316020206f9fb95736faba9e0ec077865b2b2dca78b9aa47506439", func := "loop.example/sepkernel/laws.FnExactBoardFrame", spec := "fnExactBoardFrame", unfollowed := true, recurses := true, apart := false }
def FnExactBoardFrameSaid : Prop := fnExactBoardFrameRow.holds Tryz.pinned (OpenSpec.ofChange fnExactBoardFrameSpec)

/-- ITS FALSE NEIGHBOUR: 'it returns false'. Refute it at one input. -/
def fnExactBoardFrameWrong : ChangeSpec := { name := "fnExactBoardFrame", fn := fun _ => fun
  | [d] => { results := [.lit (.bool false)], args := [d] }
  | _ => none }
def FnExactBoardFrameWrongFalsely : Prop := fnExactBoardFrameRow.holds Tryz.pinned (OpenSpec.ofChange fnExactBoardFrameWrong)

/-- 'laws.FnExactBoardRun': WHATEVER THE INPUT: true; the input reads as it did. -/
def fnExactBoardRunSpec : ChangeSpec := { name := "fnExactBoardRun", fn := fun _ => fun
  | [d1, d2] => { results := [.lit (.bool true)], args := [d1, d2] }
  | _ => none }
def fnExactBoardRunRow : OpenClaim := { program := "ytbmdiefanhghcaagreat", sum := "177c9badd7316020206f9fb95736faba9e0ec077865b2b2dca78b9aa47506439", func := "loop.example/sepkernel/laws.FnExactBoardRun", spec := "fnExactBoardRun", unfollowed := true, recurses := true, apart := false }
def FnExactBoardRunSaid : Prop := fnExactBoardRunRow.holds Tryz.pinned (OpenSpec.ofChange fnExactBoardRunSpec)

/-- ITS FALSE NEIGHBOUR: 'it returns false'. Refute it at one input. -/
def fnExactBoardRunWrong : ChangeSpec := { name := "fnExactBoardRun", fn := fun _ => fun
  | [d1, d2] => { results := [.lit (.bool false)], args := [d1, d2] }
  | _ => none }
def FnExactBoardRunWrongFalsely : Prop := fnExactBoardRunRow.holds Tryz.pinned (OpenSpec.ofChange fnExactBoardRunWrong)

/-- 'laws.FnExactCopyWires': WHATEVER THE INPUT: true; the input reads as it did. -/
def fnExactCopyWiresSpec : ChangeSpec := { name := "fnExactCopyWires", fn := fun _ => fun
  | [d] => { results := [.lit (.bool true)], args := [d] }
  | _ => none }
def fnExactCopyWiresRow : OpenClaim := { program := "ytbmdiefanhghcaagreat", sum := "177c9badd7316020206f9fb95736faba9e0ec077865b2b2dca78b9aa47506439", func := "loop.example/sepkernel/laws.FnExactCopyWires", spec := "fnExactCopyWires", unfollowed := true, recurses := true, apart := false }
def FnExactCopyWiresSaid : Prop := fnExactCopyWiresRow.holds Tryz.pinned (OpenSpec.ofChange fnExactCopyWiresSpec)

/-- ITS FALSE NEIGHBOUR: 'it returns false'. Refute it at one input. -/
def fnExactCopyWiresWrong : ChangeSpec := { name := "fnExactCopyWires", fn := fun _ => fun
  | [d] => { results := [.lit (.bool false)], args := [d] }
  | _ => none }
def FnExactCopyWiresWrongFalsely : Prop := fnExactCopyWiresRow.holds Tryz.pinned (OpenSpec.ofChange fnExactCopyWiresWrong)

/- THE SECOND FORM. 'bulk': how many values and letters a reading holds, each counted each time it is reached (what is shared counts as often as it is met; a slice's spare places count too). A statement '..UptoSaid' is the law's where the arguments, and the package variables that the reading takes, are together of bulk at most 1048576: NARROWER than '..Said'. Prove '..Said' where nothing that the law and all that it calls make is longer than what came in: it says more and counts as full. Else prove '..UptoSaid'. A law counts once. -/
mutual
def uptoBulk {H : Type} : DataW H → Nat
  | .lit (.string bytes) => bytes.length + 1
  | .lit _ => 1
  | .nil => 1
  | .ptr d => uptoBulk d + 1
  | .slice elems spare => uptoBulkAll elems + uptoBulkAll spare + 1
  | .agg parts => uptoBulkAll parts + 1
  | .iface _ d => uptoBulk d + 1
  | .map entries => uptoBulkEntries entries + 1
  | .held _ => 1
def uptoBulkAll {H : Type} : List (DataW H) → Nat
  | [] => 0
  | d :: r => uptoBulk d + uptoBulkAll r
def uptoBulkEntries {H : Type} : List (Lit × DataW H) → Nat
  | [] => 0
  | x :: r => uptoBulkEntry x + uptoBulkEntries r
def uptoBulkEntry {H : Type} : Lit × DataW H → Nat
  | (.string bytes, d) => bytes.length + uptoBulk d + 1
  | (_, d) => uptoBulk d + 1
 end
def uptoSmall : (H : Type) → List (DataW H) → Bool := fun _ ds => decide (uptoBulkAll ds ≤ 1048576)
def OpenSpec.upto (s : _root_.Go.ChangeSpec) : _root_.Go.OpenSpec := { _root_.Go.OpenSpec.ofChange s with cond := some uptoSmall }

/-- 'laws.FnExactWatchRun', WHERE WHAT IT READS IS OF BULK AT MOST 1048576: true; the input reads as it did. -/
def fnExactWatchRunUptoRow : OpenClaim := { program := "ytbmdiefanhghcaagreat", sum := "177c9badd7316020206f9fb95736faba9e0ec077865b2b2dca78b9aa47506439", func := "loop.example/sepkernel/laws.FnExactWatchRun", spec := "fnExactWatchRun", unfollowed := true, recurses := true, apart := false, narrowed := true }
def FnExactWatchRunUptoSaid : Prop := fnExactWatchRunUptoRow.holds Tryz.pinned (OpenSpec.upto fnExactWatchRunSpec)

/-- 'laws.FnExactWatchTick', WHERE WHAT IT READS IS OF BULK AT MOST 1048576: true; the input reads as it did. -/
def fnExactWatchTickUptoRow : OpenClaim := { program := "ytbmdiefanhghcaagreat", sum := "177c9badd7316020206f9fb95736faba9e0ec077865b2b2dca78b9aa47506439", func := "loop.example/sepkernel/laws.FnExactWatchTick", spec := "fnExactWatchTick", unfollowed := true, recurses := true, apart := false, narrowed := true }
def FnExactWatchTickUptoSaid : Prop := fnExactWatchTickUptoRow.holds Tryz.pinned (OpenSpec.upto fnExactWatchTickSpec)

/-- 'laws.FnExactBoardFrame', WHERE WHAT IT READS IS OF BULK AT MOST 1048576: true; the input reads as it did. -/
def fnExactBoardFrameUptoRow : OpenClaim := { program := "ytbmdiefanhghcaagreat", sum := "177c9badd7316020206f9fb95736faba9e0ec077865b2b2dca78b9aa47506439", func := "loop.example/sepkernel/laws.FnExactBoardFrame", spec := "fnExactBoardFrame", unfollowed := true, recurses := true, apart := false, narrowed := true }
def FnExactBoardFrameUptoSaid : Prop := fnExactBoardFrameUptoRow.holds Tryz.pinned (OpenSpec.upto fnExactBoardFrameSpec)

/-- 'laws.FnExactBoardRun', WHERE WHAT IT READS IS OF BULK AT MOST 1048576: true; the input reads as it did. -/
def fnExactBoardRunUptoRow : OpenClaim := { program := "ytbmdiefanhghcaagreat", sum := "177c9badd7316020206f9fb95736faba9e0ec077865b2b2dca78b9aa47506439", func := "loop.example/sepkernel/laws.FnExactBoardRun", spec := "fnExactBoardRun", unfollowed := true, recurses := true, apart := false, narrowed := true }
def FnExactBoardRunUptoSaid : Prop := fnExactBoardRunUptoRow.holds Tryz.pinned (OpenSpec.upto fnExactBoardRunSpec)

/-- 'laws.FnExactCopyWires', WHERE WHAT IT READS IS OF BULK AT MOST 1048576: true; the input reads as it did. -/
def fnExactCopyWiresUptoRow : OpenClaim := { program := "ytbmdiefanhghcaagreat", sum := "177c9badd7316020206f9fb95736faba9e0ec077865b2b2dca78b9aa47506439", func := "loop.example/sepkernel/laws.FnExactCopyWires", spec := "fnExactCopyWires", unfollowed := true, recurses := true, apart := false, narrowed := true }
def FnExactCopyWiresUptoSaid : Prop := fnExactCopyWiresUptoRow.holds Tryz.pinned (OpenSpec.upto fnExactCopyWiresSpec)

end Rows
end Go.Proofs.YtbmdiefanhghcaaGreat
