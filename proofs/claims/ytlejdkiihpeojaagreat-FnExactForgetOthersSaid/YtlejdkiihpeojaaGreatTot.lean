/- Contracts of functions of the given program, and lemmas for them: each theorem states the condition under which it holds. -/
import Derived.Test.YtlejdkiihpeojaaGreatChecked
import Derived.Deep.CutBlock
import Derived.Deep.CutRange
import Derived.Test.YtlejdkiihpeojaaGreatRefc
import Derived.Test.YtlejdkiihpeojaaGreatCopy
import Derived.Test.YtlejdkiihpeojaaGreatThr
import Derived.Test.YtlejdkiihpeojaaGreatFlows
import Derived.Test.YtlejdkiihpeojaaGreatFld
import Derived.Test.YtlejdkiihpeojaaGreatApp
import Derived.Test.YtlejdkiihpeojaaGreatScal
import Derived.Test.YtlejdkiihpeojaaGreatBuild
import Derived.Test.YtlejdkiihpeojaaGreatNums
import Derived.Test.YtlejdkiihpeojaaGreatTypes
import Derived.Test.YtlejdkiihpeojaaGreatTo
import Derived.Test.YtlejdkiihpeojaaGreatEq
import Derived.Test.YtlejdkiihpeojaaGreatSz
import Derived.Test.YtlejdkiihpeojaaGreatTop
namespace Sk
open Go Go.Proofs Go.RowKit
set_option linter.unusedVariables false
set_option linter.unusedSimpArgs false
theorem M.setv_tot {s : Setup} (h : M.setv s = true) : GT.tot s ≤ 1000 := by
 have h5 := M.setv_parts h
 have h8 := M.setv_chans h
 have h12 := M.setv_slots h
 have hp := tot_list 30 5 s.Parts h5 (fun x hx => by
  obtain ⟨k, hk⟩ := List.getElem?_of_mem hx
  have hw := M.setv_win h hk
  have := tot_list 0 12 x.Windows hw (fun y _ => Nat.le_refl _)
  show GT.tot x.Windows + GT.tot x.Cells ≤ _
  have h0 : GT.tot x.Cells = 0 := rfl
  omega)
 have hc := tot_list 0 8 s.Channels h8 (fun y _ => Nat.le_refl _)
 have hs := tot_list 0 12 s.Slots h12 (fun y _ => Nat.le_refl _)
 show GT.tot s.Parts + GT.tot s.Channels + GT.tot s.Slots ≤ _
 omega
end Sk
namespace Sk
open Go Go.Proofs Go.RowKit
set_option maxHeartbeats 1600000
set_option maxRecDepth 100000
set_option linter.unusedVariables false
set_option linter.unusedSimpArgs false
/-- A byte. -/
structure By where
 v : Int
end Sk
namespace Sk
open Go Go.Proofs Go.RowKit
set_option maxHeartbeats 800000
set_option maxRecDepth 100000
set_option linter.unusedVariables false
set_option linter.unusedSimpArgs false
theorem Mx.own {F G : List Nat} {L : Nat} {a b : World} (h : Mx F a b) (ho : Own L a G) : Own L b G := ⟨ho.1, fun x hx => ⟨(ho.2 x hx).1, h.2.2.2 x (ho.2 x hx).2⟩⟩
theorem mkT_ct_Machine (x : Machine) (k : Int) : (x.mkT k).ctT = x.ctT := by simp only [Machine.mkT, Machine.ctT, GT.mkE_ct]
theorem mkT_idem_Machine (x : Machine) (k : Int) : (x.mkT k).mkT k = x.mkT k := by simp only [Machine.mkT, GT.mkE_ct, GT.mkE_idem]
end Sk
