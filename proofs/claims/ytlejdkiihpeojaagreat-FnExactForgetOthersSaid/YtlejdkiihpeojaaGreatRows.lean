/-
  No cell of these rows narrows 'for every input' (looked for: loops, veiled, ifaces, maps, wideKeys, modest, calm, conditions, laid).
  DERIVED. THE GIVEN ROWS OF THIS SEAT. 6 by the template 'for every input the law returns true; each argument reads behind the call as it read before'; 0 by the template 'total and deterministic' (their statements: YtlejdkiihpeojaaGreatTotals.lean).
  GIVEN WITH THE SEED: the statements are not yours to turn. If you find one false, say at which input.
  Laid BY PROGRAM, IN A SANDBOX (cutbox-rows.mjs): the forced cells as the released guide's own fill.sh prints them over the translation de7ccadb5560a4bf… (all of the seat's roots in one cut). By AI agents, Wed Nov 11 2026. No macro, syntax, notation, axiom, sorry.
-/
import Derived.Test.YtlejdkiihpeojaaGreatChecked
import GoSem.Claim
import GoSem.ClaimJoined
import GoSem.ClaimMapViews
import Derived.JoinedTies
import Derived.KernelRfl
namespace Go.Proofs.YtlejdkiihpeojaaGreat
/- THE CELL 'sum', in the pinned program and in every row, IS THE sha256 OF THE DUMP (.gsa) THAT YtlejdkiihpeojaaGreatProg.lean LOADS. Nothing in Lean hashes anything: it is a label: what it is worth is what the hold of that sum in a sandbox is worth. -/
noncomputable def Tryz.pinned : Pinned := { name := "ytlejdkiihpeojaagreat", sum := "de7ccadb5560a4bf8fbc131cc92440139c5958a4fd28a267eada2a5df79bfcad", checked := Tryz.checked }
namespace Rows
def none {H : Type} : Left H := { results := [], args := [] }

/-- 'laws.FnExactTickMachine': WHATEVER THE INPUT: true; the input reads as it did. -/
def fnExactTickMachineSpec : ChangeSpec := { name := "fnExactTickMachine", fn := fun _ => fun
  | [d] => { results := [.lit (.bool true)], args := [d] }
  | _ => none }
def fnExactTickMachineRow : OpenClaim := { program := "ytlejdkiihpeojaagreat", sum := "de7ccadb5560a4bf8fbc131cc92440139c5958a4fd28a267eada2a5df79bfcad", func := "loop.example/sepkernel/laws.FnExactTickMachine", spec := "fnExactTickMachine", unfollowed := true, recurses := true, apart := false }
def FnExactTickMachineSaid : Prop := fnExactTickMachineRow.holds Tryz.pinned (OpenSpec.ofChange fnExactTickMachineSpec)

/-- ITS FALSE NEIGHBOUR: 'it returns false'. Refute it at one input. -/
def fnExactTickMachineWrong : ChangeSpec := { name := "fnExactTickMachine", fn := fun _ => fun
  | [d] => { results := [.lit (.bool false)], args := [d] }
  | _ => none }
def FnExactTickMachineWrongFalsely : Prop := fnExactTickMachineRow.holds Tryz.pinned (OpenSpec.ofChange fnExactTickMachineWrong)

/-- 'laws.FnExactRunMachine': WHATEVER THE INPUT: true; the input reads as it did. -/
def fnExactRunMachineSpec : ChangeSpec := { name := "fnExactRunMachine", fn := fun _ => fun
  | [d1, d2] => { results := [.lit (.bool true)], args := [d1, d2] }
  | _ => none }
def fnExactRunMachineRow : OpenClaim := { program := "ytlejdkiihpeojaagreat", sum := "de7ccadb5560a4bf8fbc131cc92440139c5958a4fd28a267eada2a5df79bfcad", func := "loop.example/sepkernel/laws.FnExactRunMachine", spec := "fnExactRunMachine", unfollowed := true, recurses := true, apart := false }
def FnExactRunMachineSaid : Prop := fnExactRunMachineRow.holds Tryz.pinned (OpenSpec.ofChange fnExactRunMachineSpec)

/-- ITS FALSE NEIGHBOUR: 'it returns false'. Refute it at one input. -/
def fnExactRunMachineWrong : ChangeSpec := { name := "fnExactRunMachine", fn := fun _ => fun
  | [d1, d2] => { results := [.lit (.bool false)], args := [d1, d2] }
  | _ => none }
def FnExactRunMachineWrongFalsely : Prop := fnExactRunMachineRow.holds Tryz.pinned (OpenSpec.ofChange fnExactRunMachineWrong)

/-- 'laws.FnExactSentCount': WHATEVER THE INPUT: true; the input reads as it did. -/
def fnExactSentCountSpec : ChangeSpec := { name := "fnExactSentCount", fn := fun _ => fun
  | [d1, d2, d3, d4] => { results := [.lit (.bool true)], args := [d1, d2, d3, d4] }
  | _ => none }
def fnExactSentCountRow : OpenClaim := { program := "ytlejdkiihpeojaagreat", sum := "de7ccadb5560a4bf8fbc131cc92440139c5958a4fd28a267eada2a5df79bfcad", func := "loop.example/sepkernel/laws.FnExactSentCount", spec := "fnExactSentCount", unfollowed := true, recurses := true, apart := false }
def FnExactSentCountSaid : Prop := fnExactSentCountRow.holds Tryz.pinned (OpenSpec.ofChange fnExactSentCountSpec)

/-- ITS FALSE NEIGHBOUR: 'it returns false'. Refute it at one input. -/
def fnExactSentCountWrong : ChangeSpec := { name := "fnExactSentCount", fn := fun _ => fun
  | [d1, d2, d3, d4] => { results := [.lit (.bool false)], args := [d1, d2, d3, d4] }
  | _ => none }
def FnExactSentCountWrongFalsely : Prop := fnExactSentCountRow.holds Tryz.pinned (OpenSpec.ofChange fnExactSentCountWrong)

/-- 'laws.FnExactViewTrace': WHATEVER THE INPUT: true; the input reads as it did. -/
def fnExactViewTraceSpec : ChangeSpec := { name := "fnExactViewTrace", fn := fun _ => fun
  | [d1, d2, d3] => { results := [.lit (.bool true)], args := [d1, d2, d3] }
  | _ => none }
def fnExactViewTraceRow : OpenClaim := { program := "ytlejdkiihpeojaagreat", sum := "de7ccadb5560a4bf8fbc131cc92440139c5958a4fd28a267eada2a5df79bfcad", func := "loop.example/sepkernel/laws.FnExactViewTrace", spec := "fnExactViewTrace", unfollowed := true, recurses := true, apart := false }
def FnExactViewTraceSaid : Prop := fnExactViewTraceRow.holds Tryz.pinned (OpenSpec.ofChange fnExactViewTraceSpec)

/-- ITS FALSE NEIGHBOUR: 'it returns false'. Refute it at one input. -/
def fnExactViewTraceWrong : ChangeSpec := { name := "fnExactViewTrace", fn := fun _ => fun
  | [d1, d2, d3] => { results := [.lit (.bool false)], args := [d1, d2, d3] }
  | _ => none }
def FnExactViewTraceWrongFalsely : Prop := fnExactViewTraceRow.holds Tryz.pinned (OpenSpec.ofChange fnExactViewTraceWrong)

/-- 'laws.FnExactFirstDiffers': WHATEVER THE INPUT: true; the input reads as it did. -/
def fnExactFirstDiffersSpec : ChangeSpec := { name := "fnExactFirstDiffers", fn := fun _ => fun
  | [d1, d2, d3, d4] => { results := [.lit (.bool true)], args := [d1, d2, d3, d4] }
  | _ => none }
def fnExactFirstDiffersRow : OpenClaim := { program := "ytlejdkiihpeojaagreat", sum := "de7ccadb5560a4bf8fbc131cc92440139c5958a4fd28a267eada2a5df79bfcad", func := "loop.example/sepkernel/laws.FnExactFirstDiffers", spec := "fnExactFirstDiffers", unfollowed := true, recurses := true, apart := false }
def FnExactFirstDiffersSaid : Prop := fnExactFirstDiffersRow.holds Tryz.pinned (OpenSpec.ofChange fnExactFirstDiffersSpec)

/-- ITS FALSE NEIGHBOUR: 'it returns false'. Refute it at one input. -/
def fnExactFirstDiffersWrong : ChangeSpec := { name := "fnExactFirstDiffers", fn := fun _ => fun
  | [d1, d2, d3, d4] => { results := [.lit (.bool false)], args := [d1, d2, d3, d4] }
  | _ => none }
def FnExactFirstDiffersWrongFalsely : Prop := fnExactFirstDiffersRow.holds Tryz.pinned (OpenSpec.ofChange fnExactFirstDiffersWrong)

/-- 'laws.FnExactForgetOthers': WHATEVER THE INPUT: true; the input reads as it did. -/
def fnExactForgetOthersSpec : ChangeSpec := { name := "fnExactForgetOthers", fn := fun _ => fun
  | [d1, d2] => { results := [.lit (.bool true)], args := [d1, d2] }
  | _ => none }
def fnExactForgetOthersRow : OpenClaim := { program := "ytlejdkiihpeojaagreat", sum := "de7ccadb5560a4bf8fbc131cc92440139c5958a4fd28a267eada2a5df79bfcad", func := "loop.example/sepkernel/laws.FnExactForgetOthers", spec := "fnExactForgetOthers", unfollowed := true, recurses := true, apart := false }
def FnExactForgetOthersSaid : Prop := fnExactForgetOthersRow.holds Tryz.pinned (OpenSpec.ofChange fnExactForgetOthersSpec)

/-- ITS FALSE NEIGHBOUR: 'it returns false'. Refute it at one input. -/
def fnExactForgetOthersWrong : ChangeSpec := { name := "fnExactForgetOthers", fn := fun _ => fun
  | [d1, d2] => { results := [.lit (.bool false)], args := [d1, d2] }
  | _ => none }
def FnExactForgetOthersWrongFalsely : Prop := fnExactForgetOthersRow.holds Tryz.pinned (OpenSpec.ofChange fnExactForgetOthersWrong)

/- THE SECOND FORM. 'bulk': how many values and letters a reading holds, each counted each time it is reached (what is shared counts as often as it is met; a slice's spare places count too). A statement '..UptoSaid' is the law's where the arguments, and the package variables that the reading takes, are together of bulk at most 1048576: NARROWER than '..Said'. Prove '..Said' where nothing that the law and all that it calls make is longer than what came in: it says more and counts as full. Else prove '..UptoSaid'. A law counts once. -/
mutual
def uptoBulk {H : Type} : DataW H → Nat
  | .lit (.string bytes) => bytes.length + 1
  | .lit _ => 1
  | .nil => 1
  | .ptr d => uptoBulk d + 1
  | .slice elems spare => uptoBulkAll elems + uptoBulkAll spare + 1
  | .agg parts => uptoBulkAll parts + 1
  | .iface _ d => uptoBulk d + 1
  | .map entries => uptoBulkEntries entries + 1
  | .held _ => 1
def uptoBulkAll {H : Type} : List (DataW H) → Nat
  | [] => 0
  | d :: r => uptoBulk d + uptoBulkAll r
def uptoBulkEntries {H : Type} : List (Lit × DataW H) → Nat
  | [] => 0
  | x :: r => uptoBulkEntry x + uptoBulkEntries r
def uptoBulkEntry {H : Type} : Lit × DataW H → Nat
  | (.string bytes, d) => bytes.length + uptoBulk d + 1
  | (_, d) => uptoBulk d + 1
 end
def uptoSmall : (H : Type) → List (DataW H) → Bool := fun _ ds => decide (uptoBulkAll ds ≤ 1048576)
def OpenSpec.upto (s : _root_.Go.ChangeSpec) : _root_.Go.OpenSpec := { _root_.Go.OpenSpec.ofChange s with cond := some uptoSmall }

/-- 'laws.FnExactTickMachine', WHERE WHAT IT READS IS OF BULK AT MOST 1048576: true; the input reads as it did. -/
def fnExactTickMachineUptoRow : OpenClaim := { program := "ytlejdkiihpeojaagreat", sum := "de7ccadb5560a4bf8fbc131cc92440139c5958a4fd28a267eada2a5df79bfcad", func := "loop.example/sepkernel/laws.FnExactTickMachine", spec := "fnExactTickMachine", unfollowed := true, recurses := true, apart := false, narrowed := true }
def FnExactTickMachineUptoSaid : Prop := fnExactTickMachineUptoRow.holds Tryz.pinned (OpenSpec.upto fnExactTickMachineSpec)

/-- 'laws.FnExactRunMachine', WHERE WHAT IT READS IS OF BULK AT MOST 1048576: true; the input reads as it did. -/
def fnExactRunMachineUptoRow : OpenClaim := { program := "ytlejdkiihpeojaagreat", sum := "de7ccadb5560a4bf8fbc131cc92440139c5958a4fd28a267eada2a5df79bfcad", func := "loop.example/sepkernel/laws.FnExactRunMachine", spec := "fnExactRunMachine", unfollowed := true, recurses := true, apart := false, narrowed := true }
def FnExactRunMachineUptoSaid : Prop := fnExactRunMachineUptoRow.holds Tryz.pinned (OpenSpec.upto fnExactRunMachineSpec)

/-- 'laws.FnExactSentCount', WHERE WHAT IT READS IS OF BULK AT MOST 1048576: true; the input reads as it did. -/
def fnExactSentCountUptoRow : OpenClaim := { program := "ytlejdkiihpeojaagreat", sum := "de7ccadb5560a4bf8fbc131cc92440139c5958a4fd28a267eada2a5df79bfcad", func := "loop.example/sepkernel/laws.FnExactSentCount", spec := "fnExactSentCount", unfollowed := true, recurses := true, apart := false, narrowed := true }
def FnExactSentCountUptoSaid : Prop := fnExactSentCountUptoRow.holds Tryz.pinned (OpenSpec.upto fnExactSentCountSpec)

/-- 'laws.FnExactViewTrace', WHERE WHAT IT READS IS OF BULK AT MOST 1048576: true; the input reads as it did. -/
def fnExactViewTraceUptoRow : OpenClaim := { program := "ytlejdkiihpeojaagreat", sum := "de7ccadb5560a4bf8fbc131cc92440139c5958a4fd28a267eada2a5df79bfcad", func := "loop.example/sepkernel/laws.FnExactViewTrace", spec := "fnExactViewTrace", unfollowed := true, recurses := true, apart := false, narrowed := true }
def FnExactViewTraceUptoSaid : Prop := fnExactViewTraceUptoRow.holds Tryz.pinned (OpenSpec.upto fnExactViewTraceSpec)

/-- 'laws.FnExactFirstDiffers', WHERE WHAT IT READS IS OF BULK AT MOST 1048576: true; the input reads as it did. -/
def fnExactFirstDiffersUptoRow : OpenClaim := { program := "ytlejdkiihpeojaagreat", sum := "de7ccadb5560a4bf8fbc131cc92440139c5958a4fd28a267eada2a5df79bfcad", func := "loop.example/sepkernel/laws.FnExactFirstDiffers", spec := "fnExactFirstDiffers", unfollowed := true, recurses := true, apart := false, narrowed := true }
def FnExactFirstDiffersUptoSaid : Prop := fnExactFirstDiffersUptoRow.holds Tryz.pinned (OpenSpec.upto fnExactFirstDiffersSpec)

/-- 'laws.FnExactForgetOthers', WHERE WHAT IT READS IS OF BULK AT MOST 1048576: true; the input reads as it did. -/
def fnExactForgetOthersUptoRow : OpenClaim := { program := "ytlejdkiihpeojaagreat", sum := "de7ccadb5560a4bf8fbc131cc92440139c5958a4fd28a267eada2a5df79bfcad", func := "loop.example/sepkernel/laws.FnExactForgetOthers", spec := "fnExactForgetOthers", unfollowed := true, recurses := true, apart := false, narrowed := true }
def FnExactForgetOthersUptoSaid : Prop := fnExactForgetOthersUptoRow.holds Tryz.pinned (OpenSpec.upto fnExactForgetOthersSpec)

end Rows
end Go.Proofs.YtlejdkiihpeojaaGreat
