/-
  No cell of these rows narrows 'for every input' (looked for: loops, veiled, ifaces, maps, wideKeys, modest, calm, conditions, laid).
  DERIVED. THE GIVEN ROWS OF THIS SEAT. 12 by the template 'for every input the law returns true; each argument reads behind the call as it read before'; 0 by the template 'total and deterministic' (their statements: YtfbkkjihlncnhaaGreatTotals.lean).
  GIVEN WITH THE SEED: the statements are not yours to turn. If you find one false, say at which input.
  Laid BY PROGRAM, IN A SANDBOX (cutbox-rows.mjs): the forced cells as the released guide's own fill.sh prints them over the translation 545365b1d89b7771… (all of the seat's roots in one cut). By AI agents, Wed Nov 11 2026. No macro, syntax, notation, axiom, sorry.
-/
import Derived.Test.YtfbkkjihlncnhaaGreatChecked
import GoSem.Claim
import GoSem.ClaimJoined
import GoSem.ClaimMapViews
import Derived.JoinedTies
import Derived.KernelRfl
namespace Go.Proofs.YtfbkkjihlncnhaaGreat
/- THE CELL 'sum', in the pinned program and in every row, IS THE sha256 OF THE DUMP (.gsa) THAT YtfbkkjihlncnhaaGreatProg.lean LOADS. Nothing in Lean hashes anything: it is a label: what it is worth is what the hold of that sum in a sandbox is worth. -/
noncomputable def Tryz.pinned : Pinned := { name := "ytfbkkjihlncnhaagreat", sum := "545365b1d89b7771ae84b04f3e7d7b7d23178cf8b6d5f6cd6dcf0b8ebbc8e3e3", checked := Tryz.checked }
namespace Rows
def none {H : Type} : Left H := { results := [], args := [] }

/-- 'laws.FnRestartPart': WHATEVER THE INPUT: true; the input reads as it did. -/
def fnRestartPartSpec : ChangeSpec := { name := "fnRestartPart", fn := fun _ => fun
  | [d] => { results := [.lit (.bool true)], args := [d] }
  | _ => none }
def fnRestartPartRow : OpenClaim := { program := "ytfbkkjihlncnhaagreat", sum := "545365b1d89b7771ae84b04f3e7d7b7d23178cf8b6d5f6cd6dcf0b8ebbc8e3e3", func := "loop.example/sepkernel/laws.FnRestartPart", spec := "fnRestartPart", unfollowed := true, recurses := true, apart := false }
def FnRestartPartSaid : Prop := fnRestartPartRow.holds Tryz.pinned (OpenSpec.ofChange fnRestartPartSpec)

/-- ITS FALSE NEIGHBOUR: 'it returns false'. Refute it at one input. -/
def fnRestartPartWrong : ChangeSpec := { name := "fnRestartPart", fn := fun _ => fun
  | [d] => { results := [.lit (.bool false)], args := [d] }
  | _ => none }
def FnRestartPartWrongFalsely : Prop := fnRestartPartRow.holds Tryz.pinned (OpenSpec.ofChange fnRestartPartWrong)

/-- 'laws.FnViewOf': WHATEVER THE INPUT: true; the input reads as it did. -/
def fnViewOfSpec : ChangeSpec := { name := "fnViewOf", fn := fun _ => fun
  | [d] => { results := [.lit (.bool true)], args := [d] }
  | _ => none }
def fnViewOfRow : OpenClaim := { program := "ytfbkkjihlncnhaagreat", sum := "545365b1d89b7771ae84b04f3e7d7b7d23178cf8b6d5f6cd6dcf0b8ebbc8e3e3", func := "loop.example/sepkernel/laws.FnViewOf", spec := "fnViewOf", unfollowed := true, recurses := true, apart := false }
def FnViewOfSaid : Prop := fnViewOfRow.holds Tryz.pinned (OpenSpec.ofChange fnViewOfSpec)

/-- ITS FALSE NEIGHBOUR: 'it returns false'. Refute it at one input. -/
def fnViewOfWrong : ChangeSpec := { name := "fnViewOf", fn := fun _ => fun
  | [d] => { results := [.lit (.bool false)], args := [d] }
  | _ => none }
def FnViewOfWrongFalsely : Prop := fnViewOfRow.holds Tryz.pinned (OpenSpec.ofChange fnViewOfWrong)

/-- 'laws.FnSameInner': WHATEVER THE INPUT: true; the input reads as it did. -/
def fnSameInnerSpec : ChangeSpec := { name := "fnSameInner", fn := fun _ => fun
  | [d] => { results := [.lit (.bool true)], args := [d] }
  | _ => none }
def fnSameInnerRow : OpenClaim := { program := "ytfbkkjihlncnhaagreat", sum := "545365b1d89b7771ae84b04f3e7d7b7d23178cf8b6d5f6cd6dcf0b8ebbc8e3e3", func := "loop.example/sepkernel/laws.FnSameInner", spec := "fnSameInner", unfollowed := true, recurses := true, apart := false }
def FnSameInnerSaid : Prop := fnSameInnerRow.holds Tryz.pinned (OpenSpec.ofChange fnSameInnerSpec)

/-- ITS FALSE NEIGHBOUR: 'it returns false'. Refute it at one input. -/
def fnSameInnerWrong : ChangeSpec := { name := "fnSameInner", fn := fun _ => fun
  | [d] => { results := [.lit (.bool false)], args := [d] }
  | _ => none }
def FnSameInnerWrongFalsely : Prop := fnSameInnerRow.holds Tryz.pinned (OpenSpec.ofChange fnSameInnerWrong)

/-- 'laws.FnSameView': WHATEVER THE INPUT: true; the input reads as it did. -/
def fnSameViewSpec : ChangeSpec := { name := "fnSameView", fn := fun _ => fun
  | [d] => { results := [.lit (.bool true)], args := [d] }
  | _ => none }
def fnSameViewRow : OpenClaim := { program := "ytfbkkjihlncnhaagreat", sum := "545365b1d89b7771ae84b04f3e7d7b7d23178cf8b6d5f6cd6dcf0b8ebbc8e3e3", func := "loop.example/sepkernel/laws.FnSameView", spec := "fnSameView", unfollowed := true, recurses := true, apart := false }
def FnSameViewSaid : Prop := fnSameViewRow.holds Tryz.pinned (OpenSpec.ofChange fnSameViewSpec)

/-- ITS FALSE NEIGHBOUR: 'it returns false'. Refute it at one input. -/
def fnSameViewWrong : ChangeSpec := { name := "fnSameView", fn := fun _ => fun
  | [d] => { results := [.lit (.bool false)], args := [d] }
  | _ => none }
def FnSameViewWrongFalsely : Prop := fnSameViewRow.holds Tryz.pinned (OpenSpec.ofChange fnSameViewWrong)

/-- 'laws.FnSentNothing': WHATEVER THE INPUT: true; the input reads as it did. -/
def fnSentNothingSpec : ChangeSpec := { name := "fnSentNothing", fn := fun _ => fun
  | [d] => { results := [.lit (.bool true)], args := [d] }
  | _ => none }
def fnSentNothingRow : OpenClaim := { program := "ytfbkkjihlncnhaagreat", sum := "545365b1d89b7771ae84b04f3e7d7b7d23178cf8b6d5f6cd6dcf0b8ebbc8e3e3", func := "loop.example/sepkernel/laws.FnSentNothing", spec := "fnSentNothing", unfollowed := true, recurses := true, apart := false }
def FnSentNothingSaid : Prop := fnSentNothingRow.holds Tryz.pinned (OpenSpec.ofChange fnSentNothingSpec)

/-- ITS FALSE NEIGHBOUR: 'it returns false'. Refute it at one input. -/
def fnSentNothingWrong : ChangeSpec := { name := "fnSentNothing", fn := fun _ => fun
  | [d] => { results := [.lit (.bool false)], args := [d] }
  | _ => none }
def FnSentNothingWrongFalsely : Prop := fnSentNothingRow.holds Tryz.pinned (OpenSpec.ofChange fnSentNothingWrong)

/-- 'laws.FnSentCount': WHATEVER THE INPUT: true; the input reads as it did. -/
def fnSentCountSpec : ChangeSpec := { name := "fnSentCount", fn := fun _ => fun
  | [d] => { results := [.lit (.bool true)], args := [d] }
  | _ => none }
def fnSentCountRow : OpenClaim := { program := "ytfbkkjihlncnhaagreat", sum := "545365b1d89b7771ae84b04f3e7d7b7d23178cf8b6d5f6cd6dcf0b8ebbc8e3e3", func := "loop.example/sepkernel/laws.FnSentCount", spec := "fnSentCount", unfollowed := true, recurses := true, apart := false }
def FnSentCountSaid : Prop := fnSentCountRow.holds Tryz.pinned (OpenSpec.ofChange fnSentCountSpec)

/-- ITS FALSE NEIGHBOUR: 'it returns false'. Refute it at one input. -/
def fnSentCountWrong : ChangeSpec := { name := "fnSentCount", fn := fun _ => fun
  | [d] => { results := [.lit (.bool false)], args := [d] }
  | _ => none }
def FnSentCountWrongFalsely : Prop := fnSentCountRow.holds Tryz.pinned (OpenSpec.ofChange fnSentCountWrong)

/-- 'laws.FnViewClock': WHATEVER THE INPUT: true; the input reads as it did. -/
def fnViewClockSpec : ChangeSpec := { name := "fnViewClock", fn := fun _ => fun
  | [d] => { results := [.lit (.bool true)], args := [d] }
  | _ => none }
def fnViewClockRow : OpenClaim := { program := "ytfbkkjihlncnhaagreat", sum := "545365b1d89b7771ae84b04f3e7d7b7d23178cf8b6d5f6cd6dcf0b8ebbc8e3e3", func := "loop.example/sepkernel/laws.FnViewClock", spec := "fnViewClock", unfollowed := true, recurses := true, apart := false }
def FnViewClockSaid : Prop := fnViewClockRow.holds Tryz.pinned (OpenSpec.ofChange fnViewClockSpec)

/-- ITS FALSE NEIGHBOUR: 'it returns false'. Refute it at one input. -/
def fnViewClockWrong : ChangeSpec := { name := "fnViewClock", fn := fun _ => fun
  | [d] => { results := [.lit (.bool false)], args := [d] }
  | _ => none }
def FnViewClockWrongFalsely : Prop := fnViewClockRow.holds Tryz.pinned (OpenSpec.ofChange fnViewClockWrong)

/-- 'laws.FnMachineRests': WHATEVER THE INPUT: true; the input reads as it did. -/
def fnMachineRestsSpec : ChangeSpec := { name := "fnMachineRests", fn := fun _ => fun
  | [d] => { results := [.lit (.bool true)], args := [d] }
  | _ => none }
def fnMachineRestsRow : OpenClaim := { program := "ytfbkkjihlncnhaagreat", sum := "545365b1d89b7771ae84b04f3e7d7b7d23178cf8b6d5f6cd6dcf0b8ebbc8e3e3", func := "loop.example/sepkernel/laws.FnMachineRests", spec := "fnMachineRests", unfollowed := true, recurses := true, apart := false }
def FnMachineRestsSaid : Prop := fnMachineRestsRow.holds Tryz.pinned (OpenSpec.ofChange fnMachineRestsSpec)

/-- ITS FALSE NEIGHBOUR: 'it returns false'. Refute it at one input. -/
def fnMachineRestsWrong : ChangeSpec := { name := "fnMachineRests", fn := fun _ => fun
  | [d] => { results := [.lit (.bool false)], args := [d] }
  | _ => none }
def FnMachineRestsWrongFalsely : Prop := fnMachineRestsRow.holds Tryz.pinned (OpenSpec.ofChange fnMachineRestsWrong)

/-- 'laws.FnRunMachine': WHATEVER THE INPUT: true; the input reads as it did. -/
def fnRunMachineSpec : ChangeSpec := { name := "fnRunMachine", fn := fun _ => fun
  | [d] => { results := [.lit (.bool true)], args := [d] }
  | _ => none }
def fnRunMachineRow : OpenClaim := { program := "ytfbkkjihlncnhaagreat", sum := "545365b1d89b7771ae84b04f3e7d7b7d23178cf8b6d5f6cd6dcf0b8ebbc8e3e3", func := "loop.example/sepkernel/laws.FnRunMachine", spec := "fnRunMachine", unfollowed := true, recurses := true, apart := false }
def FnRunMachineSaid : Prop := fnRunMachineRow.holds Tryz.pinned (OpenSpec.ofChange fnRunMachineSpec)

/-- ITS FALSE NEIGHBOUR: 'it returns false'. Refute it at one input. -/
def fnRunMachineWrong : ChangeSpec := { name := "fnRunMachine", fn := fun _ => fun
  | [d] => { results := [.lit (.bool false)], args := [d] }
  | _ => none }
def FnRunMachineWrongFalsely : Prop := fnRunMachineRow.holds Tryz.pinned (OpenSpec.ofChange fnRunMachineWrong)

/-- 'laws.FnViewTrace': WHATEVER THE INPUT: true; the input reads as it did. -/
def fnViewTraceSpec : ChangeSpec := { name := "fnViewTrace", fn := fun _ => fun
  | [d] => { results := [.lit (.bool true)], args := [d] }
  | _ => none }
def fnViewTraceRow : OpenClaim := { program := "ytfbkkjihlncnhaagreat", sum := "545365b1d89b7771ae84b04f3e7d7b7d23178cf8b6d5f6cd6dcf0b8ebbc8e3e3", func := "loop.example/sepkernel/laws.FnViewTrace", spec := "fnViewTrace", unfollowed := true, recurses := true, apart := false }
def FnViewTraceSaid : Prop := fnViewTraceRow.holds Tryz.pinned (OpenSpec.ofChange fnViewTraceSpec)

/-- ITS FALSE NEIGHBOUR: 'it returns false'. Refute it at one input. -/
def fnViewTraceWrong : ChangeSpec := { name := "fnViewTrace", fn := fun _ => fun
  | [d] => { results := [.lit (.bool false)], args := [d] }
  | _ => none }
def FnViewTraceWrongFalsely : Prop := fnViewTraceRow.holds Tryz.pinned (OpenSpec.ofChange fnViewTraceWrong)

/-- 'laws.FnSameFor': WHATEVER THE INPUT: true; the input reads as it did. -/
def fnSameForSpec : ChangeSpec := { name := "fnSameFor", fn := fun _ => fun
  | [d] => { results := [.lit (.bool true)], args := [d] }
  | _ => none }
def fnSameForRow : OpenClaim := { program := "ytfbkkjihlncnhaagreat", sum := "545365b1d89b7771ae84b04f3e7d7b7d23178cf8b6d5f6cd6dcf0b8ebbc8e3e3", func := "loop.example/sepkernel/laws.FnSameFor", spec := "fnSameFor", unfollowed := true, recurses := true, apart := false }
def FnSameForSaid : Prop := fnSameForRow.holds Tryz.pinned (OpenSpec.ofChange fnSameForSpec)

/-- ITS FALSE NEIGHBOUR: 'it returns false'. Refute it at one input. -/
def fnSameForWrong : ChangeSpec := { name := "fnSameFor", fn := fun _ => fun
  | [d] => { results := [.lit (.bool false)], args := [d] }
  | _ => none }
def FnSameForWrongFalsely : Prop := fnSameForRow.holds Tryz.pinned (OpenSpec.ofChange fnSameForWrong)

/-- 'laws.FnForgetOthers': WHATEVER THE INPUT: true; the input reads as it did. -/
def fnForgetOthersSpec : ChangeSpec := { name := "fnForgetOthers", fn := fun _ => fun
  | [d] => { results := [.lit (.bool true)], args := [d] }
  | _ => none }
def fnForgetOthersRow : OpenClaim := { program := "ytfbkkjihlncnhaagreat", sum := "545365b1d89b7771ae84b04f3e7d7b7d23178cf8b6d5f6cd6dcf0b8ebbc8e3e3", func := "loop.example/sepkernel/laws.FnForgetOthers", spec := "fnForgetOthers", unfollowed := true, recurses := true, apart := false }
def FnForgetOthersSaid : Prop := fnForgetOthersRow.holds Tryz.pinned (OpenSpec.ofChange fnForgetOthersSpec)

/-- ITS FALSE NEIGHBOUR: 'it returns false'. Refute it at one input. -/
def fnForgetOthersWrong : ChangeSpec := { name := "fnForgetOthers", fn := fun _ => fun
  | [d] => { results := [.lit (.bool false)], args := [d] }
  | _ => none }
def FnForgetOthersWrongFalsely : Prop := fnForgetOthersRow.holds Tryz.pinned (OpenSpec.ofChange fnForgetOthersWrong)

/- THE SECOND FORM. 'bulk': how many values and letters a reading holds, each counted each time it is reached (what is shared counts as often as it is met; a slice's spare places count too). A statement '..UptoSaid' is the law's where the arguments, and the package variables that the reading takes, are together of bulk at most 1048576: NARROWER than '..Said'. Prove '..Said' where nothing that the law and all that it calls make is longer than what came in: it says more and counts as full. Else prove '..UptoSaid'. A law counts once. -/
mutual
def uptoBulk {H : Type} : DataW H → Nat
  | .lit (.string bytes) => bytes.length + 1
  | .lit _ => 1
  | .nil => 1
  | .ptr d => uptoBulk d + 1
  | .slice elems spare => uptoBulkAll elems + uptoBulkAll spare + 1
  | .agg parts => uptoBulkAll parts + 1
  | .iface _ d => uptoBulk d + 1
  | .map entries => uptoBulkEntries entries + 1
  | .held _ => 1
def uptoBulkAll {H : Type} : List (DataW H) → Nat
  | [] => 0
  | d :: r => uptoBulk d + uptoBulkAll r
def uptoBulkEntries {H : Type} : List (Lit × DataW H) → Nat
  | [] => 0
  | x :: r => uptoBulkEntry x + uptoBulkEntries r
def uptoBulkEntry {H : Type} : Lit × DataW H → Nat
  | (.string bytes, d) => bytes.length + uptoBulk d + 1
  | (_, d) => uptoBulk d + 1
 end
def uptoSmall : (H : Type) → List (DataW H) → Bool := fun _ ds => decide (uptoBulkAll ds ≤ 1048576)
def OpenSpec.upto (s : _root_.Go.ChangeSpec) : _root_.Go.OpenSpec := { _root_.Go.OpenSpec.ofChange s with cond := some uptoSmall }

/-- 'laws.FnRestartPart', WHERE WHAT IT READS IS OF BULK AT MOST 1048576: true; the input reads as it did. -/
def fnRestartPartUptoRow : OpenClaim := { program := "ytfbkkjihlncnhaagreat", sum := "545365b1d89b7771ae84b04f3e7d7b7d23178cf8b6d5f6cd6dcf0b8ebbc8e3e3", func := "loop.example/sepkernel/laws.FnRestartPart", spec := "fnRestartPart", unfollowed := true, recurses := true, apart := false, narrowed := true }
def FnRestartPartUptoSaid : Prop := fnRestartPartUptoRow.holds Tryz.pinned (OpenSpec.upto fnRestartPartSpec)

/-- 'laws.FnViewOf', WHERE WHAT IT READS IS OF BULK AT MOST 1048576: true; the input reads as it did. -/
def fnViewOfUptoRow : OpenClaim := { program := "ytfbkkjihlncnhaagreat", sum := "545365b1d89b7771ae84b04f3e7d7b7d23178cf8b6d5f6cd6dcf0b8ebbc8e3e3", func := "loop.example/sepkernel/laws.FnViewOf", spec := "fnViewOf", unfollowed := true, recurses := true, apart := false, narrowed := true }
def FnViewOfUptoSaid : Prop := fnViewOfUptoRow.holds Tryz.pinned (OpenSpec.upto fnViewOfSpec)

/-- 'laws.FnSameInner', WHERE WHAT IT READS IS OF BULK AT MOST 1048576: true; the input reads as it did. -/
def fnSameInnerUptoRow : OpenClaim := { program := "ytfbkkjihlncnhaagreat", sum := "545365b1d89b7771ae84b04f3e7d7b7d23178cf8b6d5f6cd6dcf0b8ebbc8e3e3", func := "loop.example/sepkernel/laws.FnSameInner", spec := "fnSameInner", unfollowed := true, recurses := true, apart := false, narrowed := true }
def FnSameInnerUptoSaid : Prop := fnSameInnerUptoRow.holds Tryz.pinned (OpenSpec.upto fnSameInnerSpec)

/-- 'laws.FnSameView', WHERE WHAT IT READS IS OF BULK AT MOST 1048576: true; the input reads as it did. -/
def fnSameViewUptoRow : OpenClaim := { program := "ytfbkkjihlncnhaagreat", sum := "545365b1d89b7771ae84b04f3e7d7b7d23178cf8b6d5f6cd6dcf0b8ebbc8e3e3", func := "loop.example/sepkernel/laws.FnSameView", spec := "fnSameView", unfollowed := true, recurses := true, apart := false, narrowed := true }
def FnSameViewUptoSaid : Prop := fnSameViewUptoRow.holds Tryz.pinned (OpenSpec.upto fnSameViewSpec)

/-- 'laws.FnSentNothing', WHERE WHAT IT READS IS OF BULK AT MOST 1048576: true; the input reads as it did. -/
def fnSentNothingUptoRow : OpenClaim := { program := "ytfbkkjihlncnhaagreat", sum := "545365b1d89b7771ae84b04f3e7d7b7d23178cf8b6d5f6cd6dcf0b8ebbc8e3e3", func := "loop.example/sepkernel/laws.FnSentNothing", spec := "fnSentNothing", unfollowed := true, recurses := true, apart := false, narrowed := true }
def FnSentNothingUptoSaid : Prop := fnSentNothingUptoRow.holds Tryz.pinned (OpenSpec.upto fnSentNothingSpec)

/-- 'laws.FnSentCount', WHERE WHAT IT READS IS OF BULK AT MOST 1048576: true; the input reads as it did. -/
def fnSentCountUptoRow : OpenClaim := { program := "ytfbkkjihlncnhaagreat", sum := "545365b1d89b7771ae84b04f3e7d7b7d23178cf8b6d5f6cd6dcf0b8ebbc8e3e3", func := "loop.example/sepkernel/laws.FnSentCount", spec := "fnSentCount", unfollowed := true, recurses := true, apart := false, narrowed := true }
def FnSentCountUptoSaid : Prop := fnSentCountUptoRow.holds Tryz.pinned (OpenSpec.upto fnSentCountSpec)

/-- 'laws.FnViewClock', WHERE WHAT IT READS IS OF BULK AT MOST 1048576: true; the input reads as it did. -/
def fnViewClockUptoRow : OpenClaim := { program := "ytfbkkjihlncnhaagreat", sum := "545365b1d89b7771ae84b04f3e7d7b7d23178cf8b6d5f6cd6dcf0b8ebbc8e3e3", func := "loop.example/sepkernel/laws.FnViewClock", spec := "fnViewClock", unfollowed := true, recurses := true, apart := false, narrowed := true }
def FnViewClockUptoSaid : Prop := fnViewClockUptoRow.holds Tryz.pinned (OpenSpec.upto fnViewClockSpec)

/-- 'laws.FnMachineRests', WHERE WHAT IT READS IS OF BULK AT MOST 1048576: true; the input reads as it did. -/
def fnMachineRestsUptoRow : OpenClaim := { program := "ytfbkkjihlncnhaagreat", sum := "545365b1d89b7771ae84b04f3e7d7b7d23178cf8b6d5f6cd6dcf0b8ebbc8e3e3", func := "loop.example/sepkernel/laws.FnMachineRests", spec := "fnMachineRests", unfollowed := true, recurses := true, apart := false, narrowed := true }
def FnMachineRestsUptoSaid : Prop := fnMachineRestsUptoRow.holds Tryz.pinned (OpenSpec.upto fnMachineRestsSpec)

/-- 'laws.FnRunMachine', WHERE WHAT IT READS IS OF BULK AT MOST 1048576: true; the input reads as it did. -/
def fnRunMachineUptoRow : OpenClaim := { program := "ytfbkkjihlncnhaagreat", sum := "545365b1d89b7771ae84b04f3e7d7b7d23178cf8b6d5f6cd6dcf0b8ebbc8e3e3", func := "loop.example/sepkernel/laws.FnRunMachine", spec := "fnRunMachine", unfollowed := true, recurses := true, apart := false, narrowed := true }
def FnRunMachineUptoSaid : Prop := fnRunMachineUptoRow.holds Tryz.pinned (OpenSpec.upto fnRunMachineSpec)

/-- 'laws.FnViewTrace', WHERE WHAT IT READS IS OF BULK AT MOST 1048576: true; the input reads as it did. -/
def fnViewTraceUptoRow : OpenClaim := { program := "ytfbkkjihlncnhaagreat", sum := "545365b1d89b7771ae84b04f3e7d7b7d23178cf8b6d5f6cd6dcf0b8ebbc8e3e3", func := "loop.example/sepkernel/laws.FnViewTrace", spec := "fnViewTrace", unfollowed := true, recurses := true, apart := false, narrowed := true }
def FnViewTraceUptoSaid : Prop := fnViewTraceUptoRow.holds Tryz.pinned (OpenSpec.upto fnViewTraceSpec)

/-- 'laws.FnSameFor', WHERE WHAT IT READS IS OF BULK AT MOST 1048576: true; the input reads as it did. -/
def fnSameForUptoRow : OpenClaim := { program := "ytfbkkjihlncnhaagreat", sum := "545365b1d89b7771ae84b04f3e7d7b7d23178cf8b6d5f6cd6dcf0b8ebbc8e3e3", func := "loop.example/sepkernel/laws.FnSameFor", spec := "fnSameFor", unfollowed := true, recurses := true, apart := false, narrowed := true }
def FnSameForUptoSaid : Prop := fnSameForUptoRow.holds Tryz.pinned (OpenSpec.upto fnSameForSpec)

/-- 'laws.FnForgetOthers', WHERE WHAT IT READS IS OF BULK AT MOST 1048576: true; the input reads as it did. -/
def fnForgetOthersUptoRow : OpenClaim := { program := "ytfbkkjihlncnhaagreat", sum := "545365b1d89b7771ae84b04f3e7d7b7d23178cf8b6d5f6cd6dcf0b8ebbc8e3e3", func := "loop.example/sepkernel/laws.FnForgetOthers", spec := "fnForgetOthers", unfollowed := true, recurses := true, apart := false, narrowed := true }
def FnForgetOthersUptoSaid : Prop := fnForgetOthersUptoRow.holds Tryz.pinned (OpenSpec.upto fnForgetOthersSpec)

end Rows
end Go.Proofs.YtfbkkjihlncnhaaGreat
