/- Contracts of functions of the given program, and lemmas for them: each theorem states the condition under which it holds. -/
import Derived.Test.YtpegmdigobmjeaaChecked
import Derived.Test.YtpegmdigobmjeaaCt
import Derived.Test.YtpegmdigobmjeaaCutC
namespace Sk
open Go Go.Proofs Go.RowKit
set_option linter.unusedVariables false
theorem M.setv_tot {s : Setup} (h : M.setv s = true) : GT.tot s ≤ 1000 := by
  have h5 := M.setv_parts h
  have h8 := M.setv_chans h
  have h12 := M.setv_slots h
  have hp := tot_list 30 5 s.Parts h5 (fun x hx => by
    obtain ⟨k, hk⟩ := List.getElem?_of_mem hx
    have hw := M.setv_win h hk
    have := tot_list 0 12 x.Windows hw (fun y _ => Nat.le_refl _)
    show GT.tot x.Windows + GT.tot x.Cells ≤ _
    have h0 : GT.tot x.Cells = 0 := rfl
    omega)
  have hc := tot_list 0 8 s.Channels h8 (fun y _ => Nat.le_refl _)
  have hs := tot_list 0 12 s.Slots h12 (fun y _ => Nat.le_refl _)
  show GT.tot s.Parts + GT.tot s.Channels + GT.tot s.Slots ≤ _
  omega
end Sk

