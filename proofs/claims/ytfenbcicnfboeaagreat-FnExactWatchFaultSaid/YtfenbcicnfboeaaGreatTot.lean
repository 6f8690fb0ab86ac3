/- Contracts of functions of the given program, and lemmas for them: each theorem states the condition under which it holds. -/
import Derived.Test.YtfenbcicnfboeaaGreatChecked
import Derived.Deep.CutBlock
import Derived.Deep.CutRange
import Derived.Test.YtfenbcicnfboeaaGreatRefc
import Derived.Test.YtfenbcicnfboeaaGreatCopy
import Derived.Test.YtfenbcicnfboeaaGreatThr
import Derived.Test.YtfenbcicnfboeaaGreatFlows
import Derived.Test.YtfenbcicnfboeaaGreatFld
import Derived.Test.YtfenbcicnfboeaaGreatApp
import Derived.Test.YtfenbcicnfboeaaGreatScal
import Derived.Test.YtfenbcicnfboeaaGreatBuild
import Derived.Test.YtfenbcicnfboeaaGreatNums
import Derived.Test.YtfenbcicnfboeaaGreatTypes
import Derived.Test.YtfenbcicnfboeaaGreatTo
import Derived.Test.YtfenbcicnfboeaaGreatEq
import Derived.Test.YtfenbcicnfboeaaGreatSz
import Derived.Test.YtfenbcicnfboeaaGreatTop
namespace Sk
open Go Go.Proofs Go.RowKit
set_option linter.unusedVariables false
set_option linter.unusedSimpArgs false
theorem M.setv_tot {s : Setup} (h : M.setv s = true) : GT.tot s ≤ 1000 := by
 have h5 := M.setv_parts h
 have h8 := M.setv_chans h
 have h12 := M.setv_slots h
 have hp := tot_list 30 5 s.Parts h5 (fun x hx => by
  obtain ⟨k, hk⟩ := List.getElem?_of_mem hx
  have hw := M.setv_win h hk
  have := tot_list 0 12 x.Windows hw (fun y _ => Nat.le_refl _)
  show GT.tot x.Windows + GT.tot x.Cells ≤ _
  have h0 : GT.tot x.Cells = 0 := rfl
  omega)
 have hc := tot_list 0 8 s.Channels h8 (fun y _ => Nat.le_refl _)
 have hs := tot_list 0 12 s.Slots h12 (fun y _ => Nat.le_refl _)
 show GT.tot s.Parts + GT.tot s.Channels + GT.tot s.Slots ≤ _
 omega
end Sk
namespace Sk
open Go Go.Proofs Go.RowKit
set_option maxHeartbeats 1600000
set_option maxRecDepth 100000
set_option linter.unusedVariables false
set_option linter.unusedSimpArgs false
/-- A byte. -/
structure By where
 v : Int
/-- What one reads through blocks from L on. -/
def Rsb {α : Type} [GT α] (L : Nat) (w : World) (v : Value) (xs : List α) : Prop := ∃ F, Sl w v xs F ∧ ∀ k ∈ F, L ≤ k
end Sk
namespace Sk
open Go Go.Proofs Go.RowKit
set_option maxHeartbeats 1600000
set_option maxRecDepth 100000
set_option linter.unusedVariables false
set_option linter.unusedSimpArgs false
/-- A row of flags that one may append to. -/
structure Ab where
 v : List Bool
instance instGTAb : GT Ab where
 default := ⟨[]⟩
 sz := 1
 enc w cs x F := ∃ val, cs = [val] ∧ Oa 4 0 w val x.v [] ∧ F = val.ownBlock.toList
 pos := Nat.one_pos
 len := by rintro w cs x F ⟨v, rfl, _⟩; rfl
 one := by
  rintro w cs x F ⟨v, rfl, h, _⟩ u hu
  obtain ⟨a, c, rfl, _⟩ := h.form
  simp at hu; subst hu; rfl
 inh := by rintro w cs x F ⟨v, rfl, h, rfl⟩ b hb; exact h.lt b (Option.mem_toList.1 hb)
 keep := by
  rintro w w' cs x F ⟨v, rfl, h, rfl⟩ hk
  exact ⟨v, rfl, h.keep (fun k hv => hk k (Option.mem_toList.2 hv)) (fun k hk => by cases hk), rfl⟩
 tot x := x.v.length
 ct _ := 1
 mkE x _ := x
 mkE_ct _ _ := rfl
 mkE_idem _ _ := rfl
 zc := [.slice none 0 0]
 zero w := ⟨_, rfl, Oa.nil _ _ _, rfl⟩
theorem Oa.slS {w : World} {e : TypeId} {L : Nat} {v : Value} {xs : List Bool} (h : Oa e L w v xs []) : ∃ F, Sl w v xs F ∧ ∀ k ∈ F, v.ownBlock = some k := by
 rcases h with ⟨rfl, rfl, _⟩ | ⟨g, cap, cur, rfl, hL, hg, hl, hc, hs, hr, hn⟩
 ·exact ⟨[], ⟨none, 0, rfl, Nat.le_refl _, Nat.zero_le _, .inl ⟨rfl, rfl⟩⟩, fun k hk => by cases hk⟩
 ·by_cases hx : xs = []
  ·subst hx
   exact ⟨[], ⟨_, cap, rfl, hl, hc, .inl ⟨rfl, rfl⟩⟩, fun k hk => by cases hk⟩
  ·exact ⟨[g], ⟨_, cap, rfl, hl, hc, .inr ⟨hx, g, 0, [], rfl, rfl, hr⟩⟩, fun k hk => by rw [List.mem_singleton] at hk; subst hk; rfl⟩
theorem Row.abs {w : World} {b : Nat} {xs : List Ab} : ∀ {o : Nat} {F : List Nat}, Row w b o xs F → ∃ F', Row w b o (xs.map Ab.v) F' ∧ ∀ k ∈ F', k ∈ F := by
 induction xs with
 | nil => intro o F h; exact ⟨[], rfl, fun k hk => by cases hk⟩
 | cons x xs ih =>
  intro o F h
  obtain ⟨cs, F1, F2, ⟨v, rfl, hv, rfl⟩, ha, rfl, hr⟩ := h
  obtain ⟨G, h1, h2⟩ := ih hr
  obtain ⟨G1, h3, h4⟩ := hv.slS
  refine ⟨G1 ++ G, ⟨[v], G1, G, ⟨v, rfl, h3⟩, ha, rfl, h1⟩, fun k hk => ?_⟩
  rcases List.mem_append.1 hk with hk | hk
  ·exact List.mem_append_left _ (Option.mem_toList.2 (h4 k hk))
  ·exact List.mem_append_right _ (h2 k hk)
end Sk
namespace Sk
open Go Go.Proofs Go.RowKit
set_option maxHeartbeats 800000
set_option maxRecDepth 100000
set_option linter.unusedVariables false
set_option linter.unusedSimpArgs false
theorem Mx.own {F G : List Nat} {L : Nat} {a b : World} (h : Mx F a b) (ho : Own L a G) : Own L b G := ⟨ho.1, fun x hx => ⟨(ho.2 x hx).1, h.2.2.2 x (ho.2 x hx).2⟩⟩
theorem mkT_ct_Machine (x : Machine) (k : Int) : (x.mkT k).ctT = x.ctT := by simp only [Machine.mkT, Machine.ctT, GT.mkE_ct]
theorem mkT_idem_Machine (x : Machine) (k : Int) : (x.mkT k).mkT k = x.mkT k := by simp only [Machine.mkT, GT.mkE_ct, GT.mkE_idem]
theorem mkT_ct_Watch (x : Watch) (k : Int) : (x.mkT k).ctT = x.ctT := by simp only [Watch.mkT, Watch.ctT, GT.mkE_ct, mkT_ct_Machine]
theorem mkT_idem_Watch (x : Watch) (k : Int) : (x.mkT k).mkT k = x.mkT k := by simp only [Watch.mkT, mkT_ct_Machine, mkT_idem_Machine, GT.mkE_idem]
end Sk
