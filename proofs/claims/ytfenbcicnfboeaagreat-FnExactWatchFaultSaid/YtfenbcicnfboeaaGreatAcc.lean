/- Contracts of functions of the given program, and lemmas for them: each theorem states the condition under which it holds. -/
import Derived.Test.YtfenbcicnfboeaaGreatFld
namespace Sk
open Go Go.RowKit
set_option linter.unusedVariables false
set_option linter.unusedSimpArgs false
theorem Own.grown {L : Nat} {w w' : World} {F : List Nat} {row : Option Nat} (h : Own L w F) (hg : w.grownBy w' row) (hne : ∀ k ∈ F, row ≠ some k) : Own L w' F := by
 refine ⟨h.1, fun b hb => ⟨(h.2 b hb).1, ?_⟩⟩
 obtain ⟨_, cs, T, hbk⟩ := h.2 b hb
 exact ⟨cs, T, by unfold Bk at *; rw [hg.block b (Bk.lt hbk) (fun e => hne b hb e.symm)]; exact hbk⟩
theorem Sl.grown {α : Type} [GT α] {w w' : World} {v : Value} {xs : List α} {F : List Nat} {row : Option Nat} (h : Sl w v xs F) (hg : w.grownBy w' row) (hne : ∀ k ∈ F, row ≠ some k) : Sl w' v xs F :=
 h.keep fun k hk => hg.block k (h.inh k hk) (fun e => hne k hk e.symm)
theorem Bk.grown {w w' : World} {b : Nat} {cs : List Value} {T : TypeId} {row : Option Nat} (h : Bk w b cs T) (hg : w.grownBy w' row) (hne : row ≠ some b) : Bk w' b cs T := by
 have := hg.block b h.lt (fun e => hne e.symm)
 unfold Bk at *; rw [this]; exact h
/-- A list of one's own, elements and all, that one may append to. -/
def Oo {α : Type} [GT α] (e : TypeId) (L : Nat) (w : World) (v : Value) (xs : List α) : Prop := ∃ F, Oa e L w v xs F ∧ Own L w F
theorem Oo.nil {α : Type} [GT α] (e : TypeId) (L : Nat) (w : World) : Oo (α := α) e L w (.slice none 0 0) [] := ⟨[], Oa.nil e L w, Own.nil _ _⟩
theorem Oo.ext {α : Type} [GT α] {e : TypeId} {L : Nat} {w w' : World} {v : Value} {xs : List α} (h : Oo e L w v xs) (he : Ext w w') : Oo e L w' v xs := by
 obtain ⟨F, h, o⟩ := h; exact ⟨F, h.ext he, o.ext he⟩
theorem Oo.os {α : Type} [GT α] {e : TypeId} {L : Nat} {w : World} {v : Value} {xs : List α} (h : Oo e L w v xs) : Os L w v xs := by
 obtain ⟨F, h, o⟩ := h; exact h.os o
theorem Oo.form {α : Type} [GT α] {e : TypeId} {L : Nat} {w : World} {v : Value} {xs : List α} (h : Oo e L w v xs) : ∃ a c, v = .slice a xs.length c ∧ xs.length ≤ 9223372036854775807 := by
 obtain ⟨F, h, o⟩ := h; exact h.form
theorem Oo.sh {α : Type} [GT α] {e : TypeId} {L : Nat} {w : World} {v : Value} {xs : List α} (h : Oo e L w v xs) : ∃ a n c, v = .slice a n c := by
 obtain ⟨a, c, rfl, _⟩ := h.form; exact ⟨_, _, _, rfl⟩
theorem Oo.own {α : Type} [GT α] {e : TypeId} {L : Nat} {w : World} {v : Value} {xs : List α} (h : Oo e L w v xs) : ∀ k, v.ownBlock = some k → L ≤ k := by
 obtain ⟨F, h, o⟩ := h; exact h.own
theorem Oo.lt {α : Type} [GT α] {e : TypeId} {L : Nat} {w : World} {v : Value} {xs : List α} (h : Oo e L w v xs) : ∀ k, v.ownBlock = some k → k < w.heap.size := by
 obtain ⟨F, h, o⟩ := h; exact h.lt
/-- APPEND to a list of one's own of new elements of one's own. -/
theorem wp_appOX {α : Type} [GT α] {P : Program} {u w : World} {o : Oper} {a : Act} {K : Act → World → Prop} {Q : Exit → Act → World → Prop} (s x : Operand) (t : TypeId)
  (ho : o.op = .call { callee := .builtin .append, args := #[s, x], argTypes := #[t, t] }) (e : TypeId) (ht : P.underlying t = some (.slice e)) (hel : El P e α)
  {L : Nat} {v : Value} {xs ys : List α} {Fy : List Nat} (hs : a.eval s = v) (hO : Oo e L u v xs) (he : Ext u w) (hL : L ≤ u.heap.size) {ab ao m c : Nat} (hx : a.eval x = .slice (some ⟨ab, ao, none⟩) m c) (hm : ys.length = m) (hy : Row w ab ao ys Fy)
  (hm0 : 0 < m) (hown : Own u.heap.size w Fy) (hlen : xs.length + m ≤ 4294967296)
  (h : ∀ v' w', Oo e L w' v' (xs ++ ys) → w.grownBy w' v.ownBlock → (v'.ownBlock = v.ownBlock ∨ v'.ownBlock = some w.heap.size) → K (a.put o.dst v') w') : o.wp P a w K Q := by
 have hlt := hO.lt
 obtain ⟨F, hA, hF⟩ := hO
 have hd : ∀ k ∈ Fy, v.ownBlock ≠ some k := fun k hk e => by have := (hown.2 k hk).1; have := hlt k e; omega
 refine wp_appX s x t ho e ht hel hs (hA.ext he) hx hm hy hm0 hd hlen (Nat.le_trans hL he.sz) fun v' w' h1 h2 h3 => h v' w' ⟨_, h1, ?_⟩ h2 h3
 have hnF : ∀ k ∈ F, v.ownBlock ≠ some k := fun k hk e => by
  rcases hA with ⟨rfl, _, _⟩ | ⟨g, cap, cur, rfl, _, _, _, _, _, _, hg⟩
  ·cases e
  ·cases e; exact hg hk
 refine Own.grown (row := v.ownBlock) (w := w) (Own.app (hF.ext he) hown (fun b hb => hF.lt hb) hL) h2 fun k hk => ?_
 rcases List.mem_append.1 hk with hk | hk
 ·exact hnF k hk
 ·exact hd k hk
theorem wp_appO {α : Type} [GT α] {P : Program} {u w : World} {o : Oper} {a : Act} {K : Act → World → Prop} {Q : Exit → Act → World → Prop} (s x : Operand) (t : TypeId)
  (ho : o.op = .call { callee := .builtin .append, args := #[s, x], argTypes := #[t, t] }) (e : TypeId) (ht : P.underlying t = some (.slice e)) (hel : El P e α)
  {L : Nat} {v : Value} {xs ys : List α} {Fy : List Nat} (hs : a.eval s = v) (hO : Oo e L u v xs) (he : Ext u w) (hL : L ≤ u.heap.size) {ab ao m c : Nat} (hx : a.eval x = .slice (some ⟨ab, ao, none⟩) m c) (hm : ys.length = m) (hy : Row w ab ao ys Fy)
  (hm0 : 0 < m) (hown : Own u.heap.size w Fy) (hlen : xs.length + m ≤ 4294967296)
  (h : ∀ v' w', Oo e L w' v' (xs ++ ys) → w.grownBy w' v.ownBlock → K (a.put o.dst v') w') : o.wp P a w K Q :=
 wp_appOX s x t ho e ht hel hs hO he hL hx hm hy hm0 hown hlen fun v' w' h1 h2 _ => h v' w' h1 h2
theorem wpl_appO {α : Type} [GT α] {P : Program} {u w : World} {ops : Array Oper} {rest : List Oper} {o : Oper} {a : Act} {Q : Exit → Act → World → Prop} (hgd : o.guard = none) (s x : Operand) (t : TypeId)
  (ho : o.op = .call { callee := .builtin .append, args := #[s, x], argTypes := #[t, t] }) (e : TypeId) (ht : P.underlying t = some (.slice e)) (hel : El P e α)
  {L : Nat} {v : Value} {xs ys : List α} {Fy : List Nat} (hs : a.eval s = v) (hO : Oo e L u v xs) (he : Ext u w) (hL : L ≤ u.heap.size) {ab ao m c : Nat} (hx : a.eval x = .slice (some ⟨ab, ao, none⟩) m c) (hm : ys.length = m) (hy : Row w ab ao ys Fy)
  (hm0 : 0 < m) (hown : Own u.heap.size w Fy) (hlen : xs.length + m ≤ 4294967296)
  (h : ∀ v' w', Oo e L w' v' (xs ++ ys) → w.grownBy w' v.ownBlock → wpList P ops Q rest (a.put o.dst v') w') : wpList P ops Q (o :: rest) a w :=
 wpList_plain hgd fun _ hK => wp_appO s x t ho e ht hel hs hO he hL hx hm hy hm0 hown hlen fun v' w' h1 h2 => hK _ _ (h v' w' h1 h2)
end Sk
