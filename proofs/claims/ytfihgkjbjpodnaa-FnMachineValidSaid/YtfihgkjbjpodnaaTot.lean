/- Contracts of functions of the given program, each under the condition that it states. -/
import Derived.Test.YtfihgkjbjpodnaaChecked
import Derived.Deep.CutBlock
import Derived.Deep.CutRange
import Derived.Test.YtfihgkjbjpodnaaCt
import Derived.Test.YtfihgkjbjpodnaaBuild
import Derived.Test.YtfihgkjbjpodnaaAcc
import Derived.Test.YtfihgkjbjpodnaaNums
import Derived.Test.YtfihgkjbjpodnaaFld
import Derived.Test.YtfihgkjbjpodnaaApp
import Derived.Test.YtfihgkjbjpodnaaScal
import Derived.Test.YtfihgkjbjpodnaaTypes
import Derived.Test.YtfihgkjbjpodnaaThr
namespace Sk
open Go Go.Proofs Go.RowKit
set_option linter.unusedVariables false
set_option linter.unusedSimpArgs false
theorem M.setv_tot {s : Setup} (h : M.setv s = true) : GT.tot s ≤ 1000 := by
 have h5 := M.setv_parts h
 have h8 := M.setv_chans h
 have h12 := M.setv_slots h
 have hp := tot_list 30 5 s.Parts h5 (fun x hx => by
  obtain ⟨k, hk⟩ := List.getElem?_of_mem hx
  have hw := M.setv_win h hk
  have := tot_list 0 12 x.Windows hw (fun y _ => Nat.le_refl _)
  show GT.tot x.Windows + GT.tot x.Cells ≤ _
  have h0 : GT.tot x.Cells = 0 := rfl
  omega)
 have hc := tot_list 0 8 s.Channels h8 (fun y _ => Nat.le_refl _)
 have hs := tot_list 0 12 s.Slots h12 (fun y _ => Nat.le_refl _)
 show GT.tot s.Parts + GT.tot s.Channels + GT.tot s.Slots ≤ _
 omega
set_option maxHeartbeats 4000000
set_option maxRecDepth 100000
theorem Rs.tailI {W : World} {b o n c : Nat} {x : Int} {xs : List Int} (h : Rs W (.slice (some ⟨b, o, none⟩) n c) (x :: xs)) : Rs W (.slice (some ⟨b, o + 1, none⟩) (n - 1) (c - 1)) xs := by
 obtain ⟨F, a, c', he, hl, hc, ⟨h1, _⟩ | ⟨_, b', o', F', h1, rfl, hr⟩⟩ := h
 ·cases h1
 ·cases he; cases h1
  obtain ⟨cs, F1, F2, _, _, rfl, hr⟩ := hr
  simp only [List.length_cons] at hl
  by_cases hx : xs = []
  ·subst hx; exact ⟨[], some ⟨b, o + 1, none⟩, c - 1, by simp, by simp, by unfold maxLen at *; omega, .inl ⟨rfl, rfl⟩⟩
  ·exact ⟨b :: F2, some ⟨b, o + 1, none⟩, c - 1, by simp, by omega, by unfold maxLen at *; omega, .inr ⟨hx, b, o + 1, F2, rfl, rfl, by simpa [GT.sz] using hr⟩⟩
theorem Mo.bk {F : List Nat} {a b : World} {p : Nat} {cs : List Value} {T : TypeId} (h : Mo F a b) (k : Bk a p cs T) (hp : p ∉ F) : Bk b p cs T := (Mx.ofMo h).bk k hp
theorem Mo.cell {F : List Nat} {a b : World} (h : Mo F a b) {p o : Nat} (hp : p ∉ F) : b.cell? ⟨p, o, none⟩ = a.cell? ⟨p, o, none⟩ := World.cell?_of_block (h.2.2.1 p hp)
theorem Oo.mo {α : Type} [GT α] {e : TypeId} {L : Nat} {w w' : World} {v : Value} {xs : List α} {F : List Nat} (h : Oo e L w v xs) (k : Mo F w w') (hF : ∀ x ∈ F, x < L) : Oo e L w' v xs := by
 obtain ⟨G, h1, h2⟩ := h
 exact ⟨G, h1.keep (fun x hx => k.2.2.1 x (fun hm => by have := h1.own x hx; have := hF x hm; omega)) (fun x hx => k.2.2.1 x (fun hm => by have := (h2.2 x hx).1; have := hF x hm; omega)), k.own h2⟩
theorem Mo.drewN {F : List Nat} {a b : World} (h : Mo F a b) (n : Nat) : Mo F a (b.drewN n) := by
 obtain ⟨h1, h2, h3, h4⟩ := h
 exact ⟨h1, ⟨h2.os, h2.tape, h2.output, Nat.le_refl _, fun b hb => by cases hb⟩, h3, fun k hk => (h4 k hk).ext ((Ext.refl _).drewN n)⟩
theorem Mo.lt {F : List Nat} {a b : World} (h : Mo F a b) : b.heap.size = a.heap.size := h.1
theorem Fz.of {w w' : World} {k : Nat} (h : Fz w k) (hk : w'.heap[k]? = w.heap[k]?) : Fz w' k := by
 obtain ⟨cs, T, h⟩ := h
 exact ⟨cs, T, by unfold Bk at *; rw [hk]; exact h⟩
theorem Own.of {L : Nat} {w w' : World} {F : List Nat} (h : Own L w F) (hk : ∀ k ∈ F, w'.heap[k]? = w.heap[k]?) : Own L w' F := ⟨h.1, fun k hm => ⟨(h.2 k hm).1, (h.2 k hm).2.of (hk k hm)⟩⟩
def Oob {α : Type} [GT α] (e : TypeId) (L M : Nat) (w : World) (v : Value) (xs : List α) : Prop := ∃ F, Oa e L w v xs F ∧ Own L w F ∧ (∀ k ∈ F, k < M) ∧ ∀ k, v.ownBlock = some k → k < M
theorem Oo.ob {α : Type} [GT α] {e : TypeId} {L : Nat} {w : World} {v : Value} {xs : List α} (h : Oo e L w v xs) : Oob e L w.heap.size w v xs := by
 have hl := h.lt
 obtain ⟨F, h1, h2⟩ := h
 exact ⟨F, h1, h2, fun k hk => h2.lt hk, hl⟩
theorem Oob.of {α : Type} [GT α] {e : TypeId} {L M : Nat} {w w' : World} {v : Value} {xs : List α} (h : Oob e L M w v xs) (hk : ∀ k, L ≤ k → k < M → w'.heap[k]? = w.heap[k]?) : Oob e L M w' v xs := by
 obtain ⟨F, h1, h2, h3, h4⟩ := h
 have hF : ∀ k ∈ F, w'.heap[k]? = w.heap[k]? := fun k hm => hk k (h2.2 k hm).1 (h3 k hm)
 exact ⟨F, h1.keep (fun k hm => hk k (h1.own k hm) (h4 k hm)) hF, h2.of hF, h3, h4⟩
theorem Oob.own {α : Type} [GT α] {e : TypeId} {L M : Nat} {w : World} {v : Value} {xs : List α} (h : Oob e L M w v xs) : ∀ k, v.ownBlock = some k → L ≤ k ∧ k < M := by
 obtain ⟨F, h1, h2, h3, h4⟩ := h
 exact fun k hk => ⟨h1.own k hk, h4 k hk⟩
theorem Osb.of {α : Type} [GT α] {L M : Nat} {w w' : World} {v : Value} {xs : List α} (h : Osb L M w v xs) (hk : ∀ k, L ≤ k → k < M → w'.heap[k]? = w.heap[k]?) : Osb L M w' v xs := by
 obtain ⟨F, h1, h2, h3⟩ := h
 have hF : ∀ k ∈ F, w'.heap[k]? = w.heap[k]? := fun k hm => hk k (h2.2 k hm).1 (h3 k hm)
 exact ⟨F, h1.keep hF, h2.of hF, h3⟩
theorem wp_appB {α : Type} [GT α] {P : Program} {w : World} {o : Oper} {a : Act} {K : Act → World → Prop} {Q : Exit → Act → World → Prop} (s x : Operand) (t : TypeId)
  (ho : o.op = .call { callee := .builtin .append, args := #[s, x], argTypes := #[t, t] }) (e : TypeId) (ht : P.underlying t = some (.slice e)) (hel : El P e α)
  {L M : Nat} {v : Value} {xs ys : List α} {Fy : List Nat} (hs : a.eval s = v) (hO : Oob e L M w v xs) (hL : L ≤ M) (hM : M ≤ w.heap.size) {ab ao m c : Nat} (hx : a.eval x = .slice (some ⟨ab, ao, none⟩) m c) (hm : ys.length = m) (hy : Row w ab ao ys Fy)
  (hm0 : 0 < m) (hown : Own M w Fy) (hlen : xs.length + m ≤ 4294967296)
  (h : ∀ v' w', Oo e L w' v' (xs ++ ys) → Mw v.ownBlock.toList w w' → (v'.ownBlock = v.ownBlock ∨ v'.ownBlock = some w.heap.size) → K (a.put o.dst v') w') : o.wp P a w K Q := by
 obtain ⟨F, hA, hF, hFM, hvM⟩ := hO
 have hd : ∀ k ∈ Fy, v.ownBlock ≠ some k := fun k hk e => by have := (hown.2 k hk).1; have := hvM k e; omega
 refine wp_appX s x t ho e ht hel hs hA hx hm hy hm0 hd hlen (Nat.le_trans hL hM) fun v' w' h1 h2 h3 => h v' w' ⟨_, h1, ?_⟩ (Mw.ofGrown h2 (fun k hk => by simp [hk])) h3
 have hnF : ∀ k ∈ F, v.ownBlock ≠ some k := fun k hk e => by
   rcases hA with ⟨rfl, _, _⟩ | ⟨g, cap, cur, rfl, _, _, _, _, _, _, hg⟩
   ·cases e
   ·cases e; exact hg hk
 refine Own.grown (row := v.ownBlock) (w := w) (Own.app hF hown (fun b hb => hFM b hb) hL) h2 fun k hk => ?_
 rcases List.mem_append.1 hk with hk | hk
 ·exact hnF k hk
 ·exact hd k hk
theorem wpl_appB {α : Type} [GT α] {P : Program} {w : World} {ops : Array Oper} {rest : List Oper} {o : Oper} {a : Act} {Q : Exit → Act → World → Prop} (hgd : o.guard = none) (s x : Operand) (t : TypeId)
  (ho : o.op = .call { callee := .builtin .append, args := #[s, x], argTypes := #[t, t] }) (e : TypeId) (ht : P.underlying t = some (.slice e)) (hel : El P e α)
  {L M : Nat} {v : Value} {xs ys : List α} {Fy : List Nat} (hs : a.eval s = v) (hO : Oob e L M w v xs) (hL : L ≤ M) (hM : M ≤ w.heap.size) {ab ao m c : Nat} (hx : a.eval x = .slice (some ⟨ab, ao, none⟩) m c) (hm : ys.length = m) (hy : Row w ab ao ys Fy)
  (hm0 : 0 < m) (hown : Own M w Fy) (hlen : xs.length + m ≤ 4294967296)
  (h : ∀ v' w', Oo e L w' v' (xs ++ ys) → Mw v.ownBlock.toList w w' → wpList P ops Q rest (a.put o.dst v') w') : wpList P ops Q (o :: rest) a w :=
 wpList_plain hgd fun _ hK => wp_appB s x t ho e ht hel hs hO hL hM hx hm hy hm0 hown hlen fun v' w' h1 h2 _ => hK _ _ (h v' w' h1 h2)
def Rvb {α : Type} [GT α] (L : Nat) (w : World) (v : Value) (x : α) : Prop := ∃ cs F, v = .agg cs.toArray ∧ GT.enc w cs x F ∧ ∀ k ∈ F, L ≤ k
theorem Rvb.rv {α : Type} [GT α] {L : Nat} {w : World} {v : Value} {x : α} (h : Rvb L w v x) : Rv w v x := by
 obtain ⟨cs, F, h1, h2, _⟩ := h
 exact ⟨cs, F, h1, h2⟩
end Sk
