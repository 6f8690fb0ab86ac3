/- Contracts of functions of the given program, and lemmas for them: each theorem states the condition under which it holds. -/
import Derived.Test.YtfenbcicnfboeaaGreatChecked
import Derived.Deep.CutBlock
import Derived.Deep.CutRange
import Derived.Test.YtfenbcicnfboeaaGreatRst
import Derived.Test.YtfenbcicnfboeaaGreatNewC
namespace Sk
open Go Go.Proofs Go.RowKit
set_option maxHeartbeats 4000000
set_option maxRecDepth 100000
set_option linter.unusedVariables false
set_option linter.unusedSimpArgs false
/-- A machine in which a partition has been restarted. -/
noncomputable def M.restartPart (m : Machine) (n : Int) : Machine := if M.mv m = true ∧ M.inn n 0 ((m.Cores.length : Int) - 1) = true then M.rst m n.toNat (M.newCore ((m.Plan.Parts[n.toNat]?).getD ⟨[], 0⟩).Cells) m.Plan.Channels.length else M.mz
theorem M.restartPart_f1 {m : Machine} {n : Int} (h : M.mv m = false) : M.restartPart m n = M.mz := if_neg (fun k => by rw [h] at k; cases k.1)
theorem M.restartPart_f2 {m : Machine} {n : Int} (h : M.inn n 0 ((m.Cores.length : Int) - 1) = false) : M.restartPart m n = M.mz := if_neg (fun k => by rw [h] at k; cases k.2)
theorem M.restartPart_t {m : Machine} {n : Nat} {q : Part} (h : M.mv m = true) (hn : n < m.Cores.length) (hq : m.Plan.Parts[n]? = some q) : M.restartPart m n = M.rst m n (M.newCore q.Cells) m.Plan.Channels.length := by
 have h2 : M.inn (n : Int) 0 ((m.Cores.length : Int) - 1) = true := M.inn_iff.2 ⟨by omega, by omega⟩
 unfold M.restartPart
 rw [if_pos ⟨h, h2⟩]
 simp [hq]
end Sk
