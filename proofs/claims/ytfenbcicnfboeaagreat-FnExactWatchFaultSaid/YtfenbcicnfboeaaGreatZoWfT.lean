/- Contracts of functions of the given program, and lemmas for them: each theorem states the condition under which it holds. -/
import Derived.Test.YtfenbcicnfboeaaGreatChecked
import Derived.Deep.CutBlock
import Derived.Deep.CutRange
import Derived.Test.YtfenbcicnfboeaaGreatZnWfI
import Derived.Test.YtfenbcicnfboeaaGreatL18M
import Derived.Test.YtfenbcicnfboeaaGreatRsPS
namespace Sk
open Go Go.Proofs Go.RowKit
set_option maxHeartbeats 1600000
set_option maxRecDepth 100000
set_option linter.unusedVariables false
set_option linter.unusedSimpArgs false
theorem Chg.puts {b n : Nat} {F : List Nat} {a : World} (cs : List Value) : ∀ {c : World} {o : Nat}, Chg b 0 n F a c → o + cs.length ≤ n → Chg b 0 n F a (putCells c b o cs) := by
 induction cs with
 | nil => intro c o h _; exact h
 | cons x cs ih =>
  intro c o h hl
  rw [putCells]
  simp only [List.length_cons] at hl
  exact ih (h.set ⟨Nat.zero_le _, by omega⟩ x) (by omega)
/-- The same as M.WB, but for the box's own cells. -/
structure M.WC (L b : Nat) (F : List Nat) (w W : World) (x : Watch) (F' : List Nat) : Prop where
 om : Om L W b 0 x F'
 ch : Chg b 0 8 F w W
 sub : ∀ k ∈ F', k ∈ F ∨ w.heap.size ≤ k
theorem M.WB.wc {L b : Nat} {F F' : List Nat} {w W : World} {x : Watch} (h : M.WB L b F w W x F') : M.WC L b F w W x F' := ⟨h.om, h.ch, h.sub⟩
theorem M.WC.lt {L b : Nat} {F F' : List Nat} {w W : World} {x : Watch} (h : M.WC L b F w W x F') : b < W.heap.size := h.om.bk.1
theorem M.WC.bk {L b : Nat} {F F' : List Nat} {w W : World} {x : Watch} (h : M.WC L b F w W x F') {k : Nat} {cs : List Value} {T : TypeId} (hk : Bk w k cs T) (hb : k ≠ b) (hF : k ∉ F) : Bk W k cs T := h.ch.bk hk hb hF
/-- The machine of a monitor, laid anew. -/
theorem M.WB.boxNew {L b : Nat} {F F' : List Nat} {w W W2 : World} {x : Watch} (h : M.WB L b F w W x F') (he : Ext W W2) {m' : Machine} {cs : List Value} {K : List Nat} (hen : GT.enc W2 cs m' K) (how : Own W.heap.size W2 K) (hL : L ≤ W.heap.size) :
  ∃ F2, M.WC L b F w (putCells W2 b 0 cs) { x with Box := m' } F2 := by
 obtain ⟨_, _, _, ho⟩ := id h.om
 obtain ⟨Fm, lb⟩ := h.om.lWatchBox
 have hl := GT.len hen
 have hlt := h.lt
 have hbK : b ∉ K := fun hm => by have := (how.2 b hm).1; omega
 obtain ⟨c0, e0, a0⟩ := lb.enc
 have hl0 := GT.len e0
 have hat : At (putCells W2 b 0 cs) b (0 + 0) cs := putCells_in (fun j hj => by
  obtain ⟨v, hv⟩ : ∃ v, c0[j]? = some v := ⟨_, List.getElem?_eq_getElem (by omega)⟩
  have := a0 j v hv
  rw [Nat.add_zero] at this
  exact ⟨v, (cell_ext he hlt).trans this⟩)
 have hfb := (h.om.own0.ext he)
 obtain ⟨F2, h1, h2, h3⟩ := lb.back L (putCells W2 b 0 cs) m' K ho (Chg.puts cs (Chg.ofExt he hlt) (by rw [hl]; exact Nat.le_refl _)) ⟨cs, enc_puts hen hbK, hat, List.nodup_cons.2 ⟨hbK, how.1⟩, fun k hk => by
  rcases List.mem_cons.1 hk with rfl | hk
  ·exact ⟨h.om.bk.2.1, putCells_fz hfb⟩
  ·exact ⟨Nat.le_trans hL (how.2 k hk).1, putCells_fz (how.2 k hk).2⟩⟩ (fun k hk => .inr (how.2 k hk).1)
 refine ⟨F2, h1, h.ch.trF h3 h.sub, fun k hk => ?_⟩
 rcases h2 k hk with h4 | h4
 ·exact h.sub k h4
 ·exact .inr (Nat.le_trans h.ch.sz (how.2 k h4).1)
/-- A monitor laid anew in a box. -/
theorem Om.newW {L : Nat} {u : World} {B : Nat} {cs : List Value} {F : List Nat} {x : Watch} {T : TypeId} {c0 : List Value} (hen : GT.enc u cs x F) (how : Own L u F) (hb : Bk u B c0 T) (h0 : c0.length = 8) (hL : L ≤ B) (hB : B ∉ F) : Om L (putCells u B 0 cs) B 0 x F := by
 have hl := GT.len hen
 have hk := hb.puts cs (by rw [h0, hl]; rfl)
 exact ⟨cs, enc_puts hen hB, fun j v hj => by rw [Nat.zero_add]; exact hk.cell hj, List.nodup_cons.2 ⟨hB, how.1⟩, fun k hk2 => by
  rcases List.mem_cons.1 hk2 with rfl | hk2
  ·exact ⟨hL, _, _, hk⟩
  ·exact ⟨(how.2 k hk2).1, putCells_fz (how.2 k hk2).2⟩⟩
end Sk
