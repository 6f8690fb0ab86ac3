/- Contracts of functions of the given program, and lemmas for them: each theorem states the condition under which it holds. -/
import Derived.Test.YtlejdkiihpeojaaGreatChecked
import Derived.Deep.CutBlock
import Derived.Deep.CutRange
import Derived.Test.YtlejdkiihpeojaaGreatNewC
import Derived.Test.YtlejdkiihpeojaaGreatMachV
import Derived.Test.YtlejdkiihpeojaaGreatTot
import Derived.Test.YtlejdkiihpeojaaGreatCopyM
import Derived.Test.YtlejdkiihpeojaaGreatTo
namespace Sk
open Go Go.Proofs Go.RowKit
set_option maxHeartbeats 1000000
set_option maxRecDepth 100000
set_option linter.unusedVariables false
set_option linter.unusedSimpArgs false
def M.mz : Machine := ⟨⟨[], [], []⟩, [], [], [], 0⟩
theorem M.setv_sized {s : Setup} (h : M.setv s = true) {k : Nat} {c : Channel} (hk : s.Channels[k]? = some c) : M.sized c.Kind c.Size = true := by
 simp only [M.setv, M.csv, Bool.and_eq_true, List.all_eq_true] at h
 have := h.2.1.2.2 c (List.mem_of_getElem? hk)
 simp only [M.cv, Bool.and_eq_true] at this
 exact this.1
theorem M.sized_pos {k s : Int} (h : M.sized k s = true) : 1 ≤ s ∧ s ≤ 4 := by
 rcases M.sized_iff.1 h with ⟨_, rfl⟩ | ⟨_, h1, h2⟩
 ·exact ⟨by decide, by decide⟩
 ·exact ⟨h1, h2⟩
theorem M.prv_bd {p : List Order} {c : Int} (h : M.prv p c = true) : (1 ≤ p.length ∧ p.length ≤ 20) ∧ 1 ≤ c ∧ c ≤ 8 := by
 simp only [M.prv, Bool.and_eq_true, M.inn_iff] at h
 exact ⟨⟨by omega, by omega⟩, h.2.1⟩
theorem M.mv_tot {m : Machine} (h : M.MV m) : GT.tot m ≤ 100000 := by
 have h1 := M.setv_tot h.pg.set
 have h5 := M.setv_parts h.pg.set
 have h8 := M.setv_chans h.pg.set
 have hnp := h.pg.np
 have hq : ∀ {k : Nat}, k < m.Programs.length → ∃ q, m.Plan.Parts[k]? = some q := fun {k} hk => ⟨_, List.getElem?_eq_getElem (by omega)⟩
 have hp := tot_list 20 5 m.Programs (by omega) (fun x hx => by
  obtain ⟨k, hk⟩ := List.getElem?_of_mem hx
  obtain ⟨q, hq⟩ := hq (List.getElem?_eq_some_iff.1 hk).1
  have hb := M.prv_bd (h.pg.prv k x q hk hq)
  have := tot_list 0 20 x hb.1.2 (fun y _ => Nat.le_refl _)
  omega)
 have hc := tot_list 8 5 m.Cores (by have := h.nc; omega) (fun x hx => by
  obtain ⟨k, hk⟩ := List.getElem?_of_mem hx
  have hkl := (List.getElem?_eq_some_iff.1 hk).1
  have hnc := h.nc
  obtain ⟨q, hq⟩ := hq (k := k) (by omega)
  have hpk : m.Programs[k]? = some m.Programs[k] := List.getElem?_eq_getElem (by omega)
  have hb := M.prv_bd (h.pg.prv k _ q hpk hq)
  have hf := h.fits k x _ q hk hpk hq
  simp only [M.fits, Bool.and_eq_true, beq_iff_eq] at hf
  have := tot_list 0 8 x.Cells (by omega) (fun y _ => Nat.le_refl _)
  show GT.tot x.Cells + GT.tot x.At + GT.tot x.Stopped ≤ _
  have h0 : GT.tot x.At = 0 := rfl
  have h2 : GT.tot x.Stopped = 0 := rfl
  omega)
 have hh := tot_list 4 8 m.Holds (by have := h.nh; omega) (fun x hx => by
  obtain ⟨k, hk⟩ := List.getElem?_of_mem hx
  have hkl := (List.getElem?_eq_some_iff.1 hk).1
  have hnh := h.nh
  have hck : m.Plan.Channels[k]? = some m.Plan.Channels[k] := List.getElem?_eq_getElem (by omega)
  have hv := h.hv k x _ hk hck
  have hz := M.sized_pos (M.setv_sized h.pg.set hck)
  simp only [M.hv, Bool.and_eq_true, decide_eq_true_eq] at hv
  have := tot_list 0 4 x.Lst (by omega) (fun y _ => Nat.le_refl _)
  show GT.tot x.Lst ≤ _
  omega)
 show GT.tot m.Plan + GT.tot m.Programs + GT.tot m.Cores + GT.tot m.Holds + GT.tot m.Tick ≤ _
 have h0 : GT.tot m.Tick = 0 := rfl
 omega
end Sk
namespace Sk
open Go Go.Proofs Go.RowKit
set_option maxHeartbeats 4000000
set_option maxRecDepth 100000
set_option linter.unusedVariables false
set_option linter.unusedSimpArgs false
theorem Ov.mz (L : Nat) (w : World) : Ov L w (.agg #[.slice none 0 0, .slice none 0 0, .slice none 0 0, .slice none 0 0, .slice none 0 0, .slice none 0 0, .int .i64 0]) M.mz := ⟨_, [], rfl, GT.zero (α := Machine) w, Own.nil _ _⟩
end Sk
