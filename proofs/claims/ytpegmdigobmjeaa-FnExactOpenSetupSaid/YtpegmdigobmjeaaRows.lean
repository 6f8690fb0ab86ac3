/-
  No cell of these rows narrows 'for every input' (looked for: loops, veiled, ifaces, maps, wideKeys, modest, calm, conditions, laid).
  DERIVED. THE GIVEN ROWS OF THIS SEAT. 5 by the template 'for every input the law returns true; each argument reads behind the call as it read before'; 0 by the template 'total and deterministic' (their statements: YtpegmdigobmjeaaTotals.lean).
  GIVEN WITH THE SEED: the statements are not yours to turn. If you find one false, say at which input.
  Laid BY PROGRAM, IN A SANDBOX (cutbox-rows.mjs): the forced cells as the released guide's own fill.sh prints them over the translation e3097a1310968041… (all of the seat's roots in one cut). By AI agents, Wed Nov 11 2026. No macro, syntax, notation, axiom, sorry.
-/
import Derived.Test.YtpegmdigobmjeaaChecked
import GoSem.Claim
import GoSem.ClaimJoined
import GoSem.ClaimMapViews
import Derived.JoinedTies
import Derived.KernelRfl
namespace Go.Proofs.Ytpegmdigobmjeaa
/- THE CELL 'sum', in the pinned program and in every row, IS THE sha256 OF THE DUMP (.gsa) THAT YtpegmdigobmjeaaProg.lean LOADS. Nothing in Lean hashes anything: it is a label: what it is worth is what the hold of that sum in a sandbox is worth. -/
noncomputable def Try.pinned : Pinned := { name := "ytpegmdigobmjeaa", sum := "e3097a1310968041656f6f7f54775a249185386913bb248b8c5810538a9f82c9", checked := Try.checked }
namespace Rows
def none {H : Type} : Left H := { results := [], args := [] }

/-- 'laws.FnExactReadSetup': WHATEVER THE INPUT: true; the input reads as it did. -/
def fnExactReadSetupSpec : ChangeSpec := { name := "fnExactReadSetup", fn := fun _ => fun
  | [d] => { results := [.lit (.bool true)], args := [d] }
  | _ => none }
def fnExactReadSetupRow : OpenClaim := { program := "ytpegmdigobmjeaa", sum := "e3097a1310968041656f6f7f54775a249185386913bb248b8c5810538a9f82c9", func := "loop.example/sepkernel/laws.FnExactReadSetup", spec := "fnExactReadSetup", unfollowed := true, recurses := true, apart := false }
def FnExactReadSetupSaid : Prop := fnExactReadSetupRow.holds Try.pinned (OpenSpec.ofChange fnExactReadSetupSpec)

/-- ITS FALSE NEIGHBOUR: 'it returns false'. Refute it at one input. -/
def fnExactReadSetupWrong : ChangeSpec := { name := "fnExactReadSetup", fn := fun _ => fun
  | [d] => { results := [.lit (.bool false)], args := [d] }
  | _ => none }
def FnExactReadSetupWrongFalsely : Prop := fnExactReadSetupRow.holds Try.pinned (OpenSpec.ofChange fnExactReadSetupWrong)

/-- 'laws.FnExactLeastPolicy': WHATEVER THE INPUT: true; the input reads as it did. -/
def fnExactLeastPolicySpec : ChangeSpec := { name := "fnExactLeastPolicy", fn := fun _ => fun
  | [d] => { results := [.lit (.bool true)], args := [d] }
  | _ => none }
def fnExactLeastPolicyRow : OpenClaim := { program := "ytpegmdigobmjeaa", sum := "e3097a1310968041656f6f7f54775a249185386913bb248b8c5810538a9f82c9", func := "loop.example/sepkernel/laws.FnExactLeastPolicy", spec := "fnExactLeastPolicy", unfollowed := true, recurses := true, apart := false }
def FnExactLeastPolicySaid : Prop := fnExactLeastPolicyRow.holds Try.pinned (OpenSpec.ofChange fnExactLeastPolicySpec)

/-- ITS FALSE NEIGHBOUR: 'it returns false'. Refute it at one input. -/
def fnExactLeastPolicyWrong : ChangeSpec := { name := "fnExactLeastPolicy", fn := fun _ => fun
  | [d] => { results := [.lit (.bool false)], args := [d] }
  | _ => none }
def FnExactLeastPolicyWrongFalsely : Prop := fnExactLeastPolicyRow.holds Try.pinned (OpenSpec.ofChange fnExactLeastPolicyWrong)

/-- 'laws.FnExactOpenSetup': WHATEVER THE INPUT: true; the input reads as it did. -/
def fnExactOpenSetupSpec : ChangeSpec := { name := "fnExactOpenSetup", fn := fun _ => fun
  | [d1, d2] => { results := [.lit (.bool true)], args := [d1, d2] }
  | _ => none }
def fnExactOpenSetupRow : OpenClaim := { program := "ytpegmdigobmjeaa", sum := "e3097a1310968041656f6f7f54775a249185386913bb248b8c5810538a9f82c9", func := "loop.example/sepkernel/laws.FnExactOpenSetup", spec := "fnExactOpenSetup", unfollowed := true, recurses := true, apart := false }
def FnExactOpenSetupSaid : Prop := fnExactOpenSetupRow.holds Try.pinned (OpenSpec.ofChange fnExactOpenSetupSpec)

/-- ITS FALSE NEIGHBOUR: 'it returns false'. Refute it at one input. -/
def fnExactOpenSetupWrong : ChangeSpec := { name := "fnExactOpenSetup", fn := fun _ => fun
  | [d1, d2] => { results := [.lit (.bool false)], args := [d1, d2] }
  | _ => none }
def FnExactOpenSetupWrongFalsely : Prop := fnExactOpenSetupRow.holds Try.pinned (OpenSpec.ofChange fnExactOpenSetupWrong)

/-- 'laws.FnExactPolicyGaps': WHATEVER THE INPUT: true; the input reads as it did. -/
def fnExactPolicyGapsSpec : ChangeSpec := { name := "fnExactPolicyGaps", fn := fun _ => fun
  | [d1, d2] => { results := [.lit (.bool true)], args := [d1, d2] }
  | _ => none }
def fnExactPolicyGapsRow : OpenClaim := { program := "ytpegmdigobmjeaa", sum := "e3097a1310968041656f6f7f54775a249185386913bb248b8c5810538a9f82c9", func := "loop.example/sepkernel/laws.FnExactPolicyGaps", spec := "fnExactPolicyGaps", unfollowed := true, recurses := true, apart := false }
def FnExactPolicyGapsSaid : Prop := fnExactPolicyGapsRow.holds Try.pinned (OpenSpec.ofChange fnExactPolicyGapsSpec)

/-- ITS FALSE NEIGHBOUR: 'it returns false'. Refute it at one input. -/
def fnExactPolicyGapsWrong : ChangeSpec := { name := "fnExactPolicyGaps", fn := fun _ => fun
  | [d1, d2] => { results := [.lit (.bool false)], args := [d1, d2] }
  | _ => none }
def FnExactPolicyGapsWrongFalsely : Prop := fnExactPolicyGapsRow.holds Try.pinned (OpenSpec.ofChange fnExactPolicyGapsWrong)

/-- 'laws.FnExactCutChannels': WHATEVER THE INPUT: true; the input reads as it did. -/
def fnExactCutChannelsSpec : ChangeSpec := { name := "fnExactCutChannels", fn := fun _ => fun
  | [d1, d2] => { results := [.lit (.bool true)], args := [d1, d2] }
  | _ => none }
def fnExactCutChannelsRow : OpenClaim := { program := "ytpegmdigobmjeaa", sum := "e3097a1310968041656f6f7f54775a249185386913bb248b8c5810538a9f82c9", func := "loop.example/sepkernel/laws.FnExactCutChannels", spec := "fnExactCutChannels", unfollowed := true, recurses := true, apart := false }
def FnExactCutChannelsSaid : Prop := fnExactCutChannelsRow.holds Try.pinned (OpenSpec.ofChange fnExactCutChannelsSpec)

/-- ITS FALSE NEIGHBOUR: 'it returns false'. Refute it at one input. -/
def fnExactCutChannelsWrong : ChangeSpec := { name := "fnExactCutChannels", fn := fun _ => fun
  | [d1, d2] => { results := [.lit (.bool false)], args := [d1, d2] }
  | _ => none }
def FnExactCutChannelsWrongFalsely : Prop := fnExactCutChannelsRow.holds Try.pinned (OpenSpec.ofChange fnExactCutChannelsWrong)

/- THE SECOND FORM. 'bulk': how many values and letters a reading holds, each counted each time it is reached (what is shared counts as often as it is met; a slice's spare places count too). A statement '..UptoSaid' is the law's where the arguments, and the package variables that the reading takes, are together of bulk at most 1048576: NARROWER than '..Said'. Prove '..Said' where nothing that the law and all that it calls make is longer than what came in: it says more and counts as full. Else prove '..UptoSaid'. A law counts once. -/
mutual
def uptoBulk {H : Type} : DataW H → Nat
  | .lit (.string bytes) => bytes.length + 1
  | .lit _ => 1
  | .nil => 1
  | .ptr d => uptoBulk d + 1
  | .slice elems spare => uptoBulkAll elems + uptoBulkAll spare + 1
  | .agg parts => uptoBulkAll parts + 1
  | .iface _ d => uptoBulk d + 1
  | .map entries => uptoBulkEntries entries + 1
  | .held _ => 1
def uptoBulkAll {H : Type} : List (DataW H) → Nat
  | [] => 0
  | d :: r => uptoBulk d + uptoBulkAll r
def uptoBulkEntries {H : Type} : List (Lit × DataW H) → Nat
  | [] => 0
  | x :: r => uptoBulkEntry x + uptoBulkEntries r
def uptoBulkEntry {H : Type} : Lit × DataW H → Nat
  | (.string bytes, d) => bytes.length + uptoBulk d + 1
  | (_, d) => uptoBulk d + 1
 end
def uptoSmall : (H : Type) → List (DataW H) → Bool := fun _ ds => decide (uptoBulkAll ds ≤ 1048576)
def OpenSpec.upto (s : _root_.Go.ChangeSpec) : _root_.Go.OpenSpec := { _root_.Go.OpenSpec.ofChange s with cond := some uptoSmall }

/-- 'laws.FnExactReadSetup', WHERE WHAT IT READS IS OF BULK AT MOST 1048576: true; the input reads as it did. -/
def fnExactReadSetupUptoRow : OpenClaim := { program := "ytpegmdigobmjeaa", sum := "e3097a1310968041656f6f7f54775a249185386913bb248b8c5810538a9f82c9", func := "loop.example/sepkernel/laws.FnExactReadSetup", spec := "fnExactReadSetup", unfollowed := true, recurses := true, apart := false, narrowed := true }
def FnExactReadSetupUptoSaid : Prop := fnExactReadSetupUptoRow.holds Try.pinned (OpenSpec.upto fnExactReadSetupSpec)

/-- 'laws.FnExactLeastPolicy', WHERE WHAT IT READS IS OF BULK AT MOST 1048576: true; the input reads as it did. -/
def fnExactLeastPolicyUptoRow : OpenClaim := { program := "ytpegmdigobmjeaa", sum := "e3097a1310968041656f6f7f54775a249185386913bb248b8c5810538a9f82c9", func := "loop.example/sepkernel/laws.FnExactLeastPolicy", spec := "fnExactLeastPolicy", unfollowed := true, recurses := true, apart := false, narrowed := true }
def FnExactLeastPolicyUptoSaid : Prop := fnExactLeastPolicyUptoRow.holds Try.pinned (OpenSpec.upto fnExactLeastPolicySpec)

/-- 'laws.FnExactOpenSetup', WHERE WHAT IT READS IS OF BULK AT MOST 1048576: true; the input reads as it did. -/
def fnExactOpenSetupUptoRow : OpenClaim := { program := "ytpegmdigobmjeaa", sum := "e3097a1310968041656f6f7f54775a249185386913bb248b8c5810538a9f82c9", func := "loop.example/sepkernel/laws.FnExactOpenSetup", spec := "fnExactOpenSetup", unfollowed := true, recurses := true, apart := false, narrowed := true }
def FnExactOpenSetupUptoSaid : Prop := fnExactOpenSetupUptoRow.holds Try.pinned (OpenSpec.upto fnExactOpenSetupSpec)

/-- 'laws.FnExactPolicyGaps', WHERE WHAT IT READS IS OF BULK AT MOST 1048576: true; the input reads as it did. -/
def fnExactPolicyGapsUptoRow : OpenClaim := { program := "ytpegmdigobmjeaa", sum := "e3097a1310968041656f6f7f54775a249185386913bb248b8c5810538a9f82c9", func := "loop.example/sepkernel/laws.FnExactPolicyGaps", spec := "fnExactPolicyGaps", unfollowed := true, recurses := true, apart := false, narrowed := true }
def FnExactPolicyGapsUptoSaid : Prop := fnExactPolicyGapsUptoRow.holds Try.pinned (OpenSpec.upto fnExactPolicyGapsSpec)

/-- 'laws.FnExactCutChannels', WHERE WHAT IT READS IS OF BULK AT MOST 1048576: true; the input reads as it did. -/
def fnExactCutChannelsUptoRow : OpenClaim := { program := "ytpegmdigobmjeaa", sum := "e3097a1310968041656f6f7f54775a249185386913bb248b8c5810538a9f82c9", func := "loop.example/sepkernel/laws.FnExactCutChannels", spec := "fnExactCutChannels", unfollowed := true, recurses := true, apart := false, narrowed := true }
def FnExactCutChannelsUptoSaid : Prop := fnExactCutChannelsUptoRow.holds Try.pinned (OpenSpec.upto fnExactCutChannelsSpec)

end Rows
end Go.Proofs.Ytpegmdigobmjeaa
