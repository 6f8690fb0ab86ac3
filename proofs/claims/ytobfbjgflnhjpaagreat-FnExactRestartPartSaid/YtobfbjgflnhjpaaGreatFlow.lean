/- Contracts of functions of the given program, and lemmas for them: each theorem states the condition under which it holds. -/
import Derived.Test.YtobfbjgflnhjpaaGreatChecked
import Derived.Test.YtobfbjgflnhjpaaGreatChan
import Derived.Test.YtobfbjgflnhjpaaGreatTo
import Derived.Test.YtobfbjgflnhjpaaGreatFoc
namespace Sk
open Go Go.Proofs Go.RowKit
set_option maxHeartbeats 400000
set_option maxRecDepth 100000
set_option linter.unusedVariables false
set_option linter.unusedSimpArgs false
/-- A channel that lets something flow from f to t. -/
def M.dc (f t : Int) (c : Channel) : Bool := (c.From == f && c.To == t) || (c.Kind == 3 && c.From == t && c.To == f)
def M.dir (cs : List Channel) (f t : Int) : Bool := (f == t) || cs.any (M.dc f t)
end Sk

namespace Sk
open Go Go.Proofs Go.RowKit
set_option maxHeartbeats 400000
set_option maxRecDepth 100000
set_option linter.unusedVariables false
set_option linter.unusedSimpArgs false
/-- k steps of f. -/
def M.upto {β : Type} (f : β → Nat → β) (b : β) : Nat → β
  | 0 => b
  | k + 1 => f (M.upto f b k) k
theorem M.upto_inv {β : Type} {f : β → Nat → β} {b : β} (P : β → Prop) (h0 : P b) (hs : ∀ x k, P x → P (f x k)) (k : Nat) : P (M.upto f b k) := by
  induction k with
  | zero => exact h0
  | succ k ih => exact hs _ _ ih
def M.fstep (cs : List Channel) (a : Nat) (out : List Bool) (b : Nat) : List Bool := out.set a (out.getD a false || (out.getD b false && M.dir cs a b))
def M.frow (cs : List Channel) (n : Nat) (out : List Bool) (a : Nat) : List Bool := M.upto (M.fstep cs a) out n
def M.fround (cs : List Channel) (n : Nat) (out : List Bool) (_ : Nat) : List Bool := M.upto (M.frow cs n) out n
/-- Which partitions may have influence on k. -/
def M.flows (cs : List Channel) (n k : Nat) : List Bool := M.upto (M.fround cs n) ((List.replicate n false).set k true) n
theorem M.fstep_t {cs : List Channel} {a b : Nat} {out : List Bool} (h : out.getD a false = true) : M.fstep cs a out b = out.set a true := by unfold M.fstep; rw [h]; rfl
theorem M.fstep_f {cs : List Channel} {a b : Nat} {out : List Bool} (h : out.getD a false = false) (k : out.getD b false = false) : M.fstep cs a out b = out.set a false := by unfold M.fstep; rw [h, k]; rfl
theorem M.fstep_d {cs : List Channel} {a b : Nat} {out : List Bool} (h : out.getD a false = false) (k : out.getD b false = true) : M.fstep cs a out b = out.set a (M.dir cs a b) := by unfold M.fstep; rw [h, k]; rfl
theorem M.fstep_len {cs : List Channel} {a : Nat} {out : List Bool} {b : Nat} : (M.fstep cs a out b).length = out.length := List.length_set ..
theorem M.frow_len {cs : List Channel} {n a : Nat} {out : List Bool} {k : Nat} : (M.upto (M.fstep cs a) out k).length = out.length :=
  M.upto_inv (fun x : List Bool => x.length = out.length) rfl (fun x k h => M.fstep_len.trans h) k
theorem M.fround_len {cs : List Channel} {n : Nat} {out : List Bool} {k : Nat} : (M.upto (M.frow cs n) out k).length = out.length :=
  M.upto_inv (fun x : List Bool => x.length = out.length) rfl (fun x k h => (M.frow_len (n := n)).trans h) k
theorem M.flows_len' {cs : List Channel} {n : Nat} {out : List Bool} {k : Nat} : (M.upto (M.fround cs n) out k).length = out.length :=
  M.upto_inv (fun x : List Bool => x.length = out.length) rfl (fun x k h => M.fround_len.trans h) k
theorem M.flows_len (cs : List Channel) (n k : Nat) : (M.flows cs n k).length = n := by
  unfold M.flows; rw [M.flows_len']; simp
theorem Os.mono {α : Type} [GT α] {L L' : Nat} {w : World} {v : Value} {xs : List α} (h : Os L w v xs) (hl : L' ≤ L) : Os L' w v xs := by
  obtain ⟨F, h, o⟩ := h; exact ⟨F, h, o.mono hl⟩
theorem Os.bool {L : Nat} {w : World} {b o n c : Nat} {xs : List Bool} (h : Os L w (.slice (some ⟨b, o, none⟩) n c) xs) (k : Nat) (hk : k < xs.length) :
    w.cell? ⟨b, o + k, none⟩ = some (.bool (xs.getD k false)) ∧ w.frozen? ⟨b, o + k, none⟩ = false ∧ b < w.heap.size := by
  obtain ⟨b', o', x, hb, hlt, hx, hc⟩ := h.rs.atBool k hk
  cases hb
  obtain ⟨b2, o2, cs2, F2, x0, hb2, _, _, _, _, hf⟩ := h.at k hk
  cases hb2
  rw [List.getD_eq_getElem?_getD, hx.out]
  exact ⟨hc, hf _, hlt⟩
theorem Os.setB {L : Nat} {w : World} {b n c : Nat} {xs : List Bool} (h : Os L w (.slice (some ⟨b, 0, none⟩) n c) xs) (hL : L ≤ w.heap.size) (k : Nat) (hk : k < xs.length) (y : Bool) :
    Os L (w.setCell ⟨b, k, none⟩ (.bool y)) (.slice (some ⟨b, 0, none⟩) n c) (xs.set k y) := by
  have := h.put (i := k) (Ext.refl _) hk hL (⟨[], ⟨rfl, rfl⟩, Own.nil _ _⟩ : Ow _ _ [.bool y] y)
  simpa only [GT.sz, putCells, Nat.mul_one, Nat.zero_add] using this
end Sk

namespace Sk
open Go Go.RowKit
set_option linter.unusedVariables false
set_option linter.unusedSimpArgs false
/-- Only the cells from o on, n of them, of block b and the blocks of F may have turned; there may be new blocks. -/
def Chg (b o n : Nat) (F : List Nat) (w w' : World) : Prop :=
  Ext {w with heap := #[]} {w' with heap := #[]} ∧ w.heap.size ≤ w'.heap.size ∧ (∀ k, k < w.heap.size → k ≠ b → k ∉ F → w'.heap[k]? = w.heap[k]?) ∧
  (∀ j, (j < o ∨ o + n ≤ j) → w'.cell? ⟨b, j, none⟩ = w.cell? ⟨b, j, none⟩) ∧ ∀ k, Fz w k → Fz w' k
theorem Chg.refl (b o n : Nat) (F : List Nat) (w : World) : Chg b o n F w w := ⟨Ext.refl _, Nat.le_refl _, fun _ _ _ _ => rfl, fun _ _ => rfl, fun _ h => h⟩
theorem Chg.tr {b o n : Nat} {F : List Nat} {a c d : World} (h : Chg b o n F a c) (k : Chg b o n F c d) : Chg b o n F a d :=
  ⟨h.1.tr k.1, Nat.le_trans h.2.1 k.2.1, fun x hx h1 h2 => (k.2.2.1 x (Nat.lt_of_lt_of_le hx h.2.1) h1 h2).trans (h.2.2.1 x hx h1 h2), fun j hj => (k.2.2.2.1 j hj).trans (h.2.2.2.1 j hj), fun x hx => k.2.2.2.2 x (h.2.2.2.2 x hx)⟩
theorem Chg.ofExt {b o n : Nat} {F : List Nat} {w w' : World} (h : Ext w w') (hb : b < w.heap.size) : Chg b o n F w w' :=
  ⟨⟨h.os, h.tape, h.output, Nat.le_refl _, fun b hb => by cases hb⟩, h.sz, fun k hk _ _ => h.block k hk, fun j _ => (bcell h).1 b j hb, fun b hb => hb.ext h⟩
/-- The same from an elder world: blocks that were not there may turn, too. -/
theorem Chg.trF {b o n : Nat} {F G : List Nat} {a c d : World} (h : Chg b o n F a c) (k : Chg b o n G c d) (hG : ∀ x ∈ G, x ∈ F ∨ a.heap.size ≤ x) : Chg b o n F a d :=
  ⟨h.1.tr k.1, Nat.le_trans h.2.1 k.2.1, fun x hx h1 h2 => (k.2.2.1 x (Nat.lt_of_lt_of_le hx h.2.1) h1 (fun hm => (hG x hm).elim (fun h3 => h2 h3) (fun h3 => by omega))).trans (h.2.2.1 x hx h1 h2), fun j hj => (k.2.2.2.1 j hj).trans (h.2.2.2.1 j hj), fun x hx => k.2.2.2.2 x (h.2.2.2.2 x hx)⟩
theorem Chg.set {b o n : Nat} {F : List Nat} {a c : World} (h : Chg b o n F a c) {j : Nat} (hj : o ≤ j ∧ j < o + n) (u : Value) : Chg b o n F a (c.setCell ⟨b, j, none⟩ u) := by
  refine ⟨?_, by simpa using h.2.1, fun x hx h1 h2 => by rw [heap_set_ne h1]; exact h.2.2.1 x hx h1 h2, fun i hi => by rw [cell_set_other (by omega)]; exact h.2.2.2.1 i hi, fun x hx => (h.2.2.2.2 x hx).set _ u⟩
  obtain ⟨h1, h2, h3, h4, h5⟩ := h.1
  exact ⟨h1, h2, h3, h4, h5⟩
theorem Chg.setF {b o n : Nat} {F : List Nat} {a c : World} (h : Chg b o n F a c) {p : Addr} (hp : p.block ∈ F) (hb : b ≠ p.block) (u : Value) : Chg b o n F a (c.setCell p u) := by
  refine ⟨?_, by simpa using h.2.1, fun x hx h1 h2 => by rw [heap_set_ne (fun e => h2 (by rw [e]; exact hp))]; exact h.2.2.1 x hx h1 h2, fun i hi => ?_, fun x hx => (h.2.2.2.2 x hx).set _ u⟩
  · obtain ⟨h1, h2, h3, h4, h5⟩ := h.1
    exact ⟨h1, h2, h3, h4, h5⟩
  · rw [World.cell?_of_block (w := c) (heap_set_ne hb)]; exact h.2.2.2.1 i hi
theorem Chg.drewN {b o n : Nat} {F : List Nat} {a c : World} (h : Chg b o n F a c) (m : Nat) : Chg b o n F a (c.drewN m) :=
  ⟨⟨h.1.os, h.1.tape, h.1.output, Nat.le_refl _, fun b hb => by cases hb⟩, h.2.1, h.2.2.1, h.2.2.2.1, fun x hx => by obtain ⟨cs, T, h3⟩ := h.2.2.2.2 x hx; exact ⟨cs, T, h3⟩⟩
theorem Chg.sz {b o n : Nat} {F : List Nat} {a c : World} (h : Chg b o n F a c) : a.heap.size ≤ c.heap.size := h.2.1
theorem Chg.wide {b o n o' n' : Nat} {F G : List Nat} {a c : World} (h : Chg b o n F a c) (h1 : o' ≤ o) (h2 : o + n ≤ o' + n') (hF : ∀ x ∈ F, x ∈ G) : Chg b o' n' G a c :=
  ⟨h.1, h.2.1, fun x hx hb hn => h.2.2.1 x hx hb (fun hm => hn (hF x hm)), fun j hj => h.2.2.2.1 j (by omega), h.2.2.2.2⟩
/-- A change inside is a change outside. -/
theorem Chg.up {b o n b' o' n' : Nat} {F G : List Nat} {a c : World} (h : Chg b' o' n' G a c) (hb : b ∉ b' :: G) (hlt : b < a.heap.size) (hG : ∀ x ∈ b' :: G, x ∈ F) : Chg b o n F a c := by
  refine ⟨h.1, h.2.1, fun x hx h1 h2 => h.2.2.1 x hx (fun e => h2 (e ▸ hG b' (List.mem_cons_self ..))) (fun hm => h2 (hG x (List.mem_cons_of_mem _ hm))), fun j _ => ?_, h.2.2.2.2⟩
  exact World.cell?_of_block (h.2.2.1 b hlt (fun e => hb (e ▸ List.mem_cons_self ..)) (fun hm => hb (List.mem_cons_of_mem _ hm)))
theorem Chg.ext {b o n : Nat} {F : List Nat} {W a c : World} (h : Chg b o n F a c) (he : Ext W a) (hb : W.heap.size ≤ b) (hF : ∀ x ∈ F, W.heap.size ≤ x) : Ext W c := by
  obtain ⟨h1, h2, h3, h4, h5⟩ := he
  obtain ⟨k1, k2, k3, k4, k5⟩ := h.1
  exact ⟨k1.trans h1, k2.trans h2, k3.trans h3, Nat.le_trans h4 h.2.1, fun x hx => (h.2.2.1 x (Nat.lt_of_lt_of_le hx h4) (by omega) (fun hm => by have := hF x hm; omega)).trans (h5 x hx)⟩
theorem Chg.keep {b o n : Nat} {F : List Nat} {a c : World} (h : Chg b o n F a c) {k : Nat} (hk : k < a.heap.size) (hb : k ≠ b) (hF : k ∉ F) : c.heap[k]? = a.heap[k]? := h.2.2.1 k hk hb hF
theorem Chg.cell {b o n : Nat} {F : List Nat} {a c : World} (h : Chg b o n F a c) {j : Nat} (hj : j < o ∨ o + n ≤ j) : c.cell? ⟨b, j, none⟩ = a.cell? ⟨b, j, none⟩ := h.2.2.2.1 j hj
theorem Fz.lt {w : World} {b : Nat} (h : Fz w b) : b < w.heap.size := by obtain ⟨cs, T, h⟩ := h; exact h.lt
theorem Own.lt {L : Nat} {w : World} {F : List Nat} (h : Own L w F) {k : Nat} (hk : k ∈ F) : k < w.heap.size := (h.2 k hk).2.lt
/-- x lies at (b, o), and all that it reaches is one's own. -/
def Om {α : Type} [GT α] (L : Nat) (w : World) (b o : Nat) (x : α) (F : List Nat) : Prop := ∃ cs, GT.enc w cs x F ∧ At w b o cs ∧ Own L w (b :: F)
theorem Om.ext {α : Type} [GT α] {L : Nat} {w w' : World} {b o : Nat} {x : α} {F : List Nat} (h : Om L w b o x F) (he : Ext w w') : Om L w' b o x F := by
  obtain ⟨cs, h1, h2, h3⟩ := h
  exact ⟨cs, GT.ext h1 he, h2.keep (he.block b (h3.lt (List.mem_cons_self ..))), h3.ext he⟩
theorem Om.mono {α : Type} [GT α] {L L' : Nat} {w : World} {b o : Nat} {x : α} {F : List Nat} (h : Om L w b o x F) (hl : L' ≤ L) : Om L' w b o x F := by
  obtain ⟨cs, h1, h2, h3⟩ := h; exact ⟨cs, h1, h2, h3.mono hl⟩
theorem Om.bk {α : Type} [GT α] {L : Nat} {w : World} {b o : Nat} {x : α} {F : List Nat} (h : Om L w b o x F) : b < w.heap.size ∧ L ≤ b ∧ b ∉ F ∧ ∀ j, w.frozen? ⟨b, j, none⟩ = false := by
  obtain ⟨cs, h1, h2, h3⟩ := h
  have h4 := (h3.2 b (List.mem_cons_self ..))
  obtain ⟨_, cs', T, h5⟩ := id h4
  exact ⟨h4.2.lt, h4.1, (List.nodup_cons.1 h3.1).1, h5.fz⟩
theorem Om.drewN {α : Type} [GT α] {L : Nat} {w : World} {b o : Nat} {x : α} {F : List Nat} (h : Om L w b o x F) (m : Nat) : Om L (w.drewN m) b o x F := h.ext ((Ext.refl w).drewN m)
/-- What a value of one's own in a block of one's own comes to. -/
theorem Om.ofOv {α : Type} [GT α] {L : Nat} {w : World} {b : Nat} {cs : List Value} {x : α} {T : TypeId} (h : Ov L w (.agg cs.toArray) x) (hb : Bk w b cs T) (hL : L ≤ b) (hF : ∀ F, GT.enc w cs x F → Own L w F → b ∉ F) : ∃ F, Om L w b 0 x F := by
  obtain ⟨cs', F, e, h1, h2⟩ := h
  have : cs' = cs := by
    have := congrArg (fun v => match v with | .agg a => a.toList | _ => []) e
    simpa using this.symm
  subst this
  refine ⟨F, cs', h1, fun j u hj => by rw [Nat.zero_add]; exact hb.cell hj, List.nodup_cons.2 ⟨hF F h1 h2, h2.1⟩, fun k hk => ?_⟩
  rcases List.mem_cons.1 hk with rfl | hk
  · exact ⟨hL, _, T, hb⟩
  · exact h2.2 k hk
theorem Om.ov {α : Type} [GT α] {L : Nat} {w : World} {b o : Nat} {x : α} {F : List Nat} (h : Om L w b o x F) : ∃ cs, At w b o cs ∧ cs.length = GT.sz α ∧ GT.enc w cs x F ∧ Ov L w (.agg cs.toArray) x := by
  obtain ⟨cs, h1, h2, h3⟩ := h
  exact ⟨cs, h2, GT.len h1, h1, cs, F, rfl, h1, (List.nodup_cons.1 h3.1).2, fun k hk => h3.2 k (List.mem_cons_of_mem _ hk)⟩
/-- y lies inside x, and may be turned there. -/
structure Lens {α β : Type} [GT α] [GT β] (w : World) (b o : Nat) (x : α) (F : List Nat) (b' o' : Nat) (y : β) (Fy : List Nat) (put : β → α) : Prop where
  sub : ∀ k ∈ b' :: Fy, k ∈ b :: F
  nd : (b' :: Fy).Nodup
  enc : ∃ cs, GT.enc w cs y Fy ∧ At w b' o' cs
  back : ∀ L w' y' Fy', Own L w (b :: F) → Chg b' o' (GT.sz β) Fy w w' → Om L w' b' o' y' Fy' → (∀ k ∈ Fy', k ∈ Fy ∨ w.heap.size ≤ k) →
    ∃ F', Om L w' b o (put y') F' ∧ (∀ k ∈ F', k ∈ F ∨ k ∈ Fy') ∧ Chg b o (GT.sz α) F w w'
theorem Lens.om {α β : Type} [GT α] [GT β] {L : Nat} {w : World} {b o : Nat} {x : α} {F : List Nat} {b' o' : Nat} {y : β} {Fy : List Nat} {put : β → α} (h : Lens w b o x F b' o' y Fy put) (ho : Own L w (b :: F)) : Om L w b' o' y Fy := by
  obtain ⟨cs, h1, h2⟩ := h.enc
  exact ⟨cs, h1, h2, h.nd, fun k hk => ho.2 k (h.sub k hk)⟩
theorem Lens.comp {α β γ : Type} [GT α] [GT β] [GT γ] {w : World} {b o : Nat} {x : α} {F : List Nat} {b1 o1 : Nat} {y : β} {F1 : List Nat} {put1 : β → α} {b2 o2 : Nat} {z : γ} {F2 : List Nat} {put2 : γ → β}
    (h : Lens w b o x F b1 o1 y F1 put1) (k : Lens w b1 o1 y F1 b2 o2 z F2 put2) : Lens w b o x F b2 o2 z F2 (fun z => put1 (put2 z)) where
  sub := fun i hi => h.sub i (k.sub i hi)
  nd := k.nd
  enc := k.enc
  back := fun L w' z' Fz' ho hc hz hf => by
    obtain ⟨F1', h1, h2, h3⟩ := k.back L w' z' Fz' ⟨h.nd, fun i hi => ho.2 i (h.sub i hi)⟩ hc hz hf
    have hb1 := h1.bk.2.2.1
    obtain ⟨F', g1, g2, g3⟩ := h.back L w' _ F1' ho h3 h1 (fun i hi => (h2 i hi).elim .inl (fun hz' => (hf i hz').elim (fun h4 => by
      rcases List.mem_cons.1 (k.sub i (List.mem_cons_of_mem _ h4)) with e | h5
      · exact absurd (e ▸ hi) hb1
      · exact .inl h5) .inr))
    have hb := g1.bk.2.2.1
    exact ⟨F', g1, fun i hi => (g2 i hi).elim .inl (fun h5 => (h2 i h5).elim (fun h6 => by
      rcases List.mem_cons.1 (h.sub i (List.mem_cons_of_mem _ h6)) with e | h7
      · exact absurd (e ▸ hi) hb
      · exact .inl h7) .inr), g3⟩
theorem mem_mid {F1 Fy F2 : List Nat} {k : Nat} : k ∈ F1 ++ (Fy ++ F2) ↔ k ∈ F1 ∨ k ∈ Fy ∨ k ∈ F2 := by simp
/-- A field. -/
theorem Lens.field {α β : Type} [GT α] [GT β] {w : World} {b o : Nat} {x : α} {y : β} {put : β → α} {A csy B : List Value} {F1 Fy F2 : List Nat} (d : Nat) (hA : A.length = d) (hd : d + csy.length + B.length = GT.sz α)
    (hat : At w b o (A ++ (csy ++ B))) (hnd : (b :: (F1 ++ (Fy ++ F2))).Nodup) (hlt : ∀ k ∈ b :: (F1 ++ (Fy ++ F2)), k < w.heap.size) (hy : GT.enc w csy y Fy)
    (hp : ∀ w' csy' y' Fy', (∀ k, k ∈ F1 ∨ k ∈ F2 → w'.heap[k]? = w.heap[k]?) → GT.enc w' csy' y' Fy' → GT.enc w' (A ++ (csy' ++ B)) (put y') (F1 ++ (Fy' ++ F2))) :
    Lens w b o x (F1 ++ (Fy ++ F2)) b (o + d) y Fy put where
  sub := fun k hk => by
    rcases List.mem_cons.1 hk with rfl | hk
    · exact List.mem_cons_self ..
    · exact List.mem_cons_of_mem _ (mem_mid.2 (.inr (.inl hk)))
  nd := by
    have h1 := List.nodup_cons.1 hnd
    refine List.nodup_cons.2 ⟨fun hm => h1.1 (mem_mid.2 (.inr (.inl hm))), ?_⟩
    have := h1.2
    simp only [List.nodup_append] at this
    exact this.2.1.1
  enc := ⟨csy, hy, fun j u hj => by
    have hj2 := (List.getElem?_eq_some_iff.1 hj).1
    have := hat (d + j) u (by rw [List.getElem?_append_right (by omega), List.getElem?_append_left (by omega), hA, Nat.add_sub_cancel_left]; exact hj)
    rwa [← Nat.add_assoc] at this⟩
  back := fun L w' y' Fy' ho hc hz hf => by
    obtain ⟨csy', h1, h2, h3⟩ := hz
    have hl := GT.len hy
    have hl' := GT.len h1
    have hnb := (List.nodup_cons.1 hnd).1
    have hn2 := (List.nodup_cons.1 hnd).2
    have hdis : ∀ k, k ∈ F1 ∨ k ∈ F2 → k ≠ b ∧ k ∉ Fy ∧ k < w.heap.size := fun k hk => by
      have hm : k ∈ F1 ++ (Fy ++ F2) := mem_mid.2 (hk.elim .inl (fun h => .inr (.inr h)))
      refine ⟨fun e => hnb (e ▸ hm), fun hy => ?_, hlt k (List.mem_cons_of_mem _ hm)⟩
      simp only [List.nodup_append, List.mem_append] at hn2
      rcases hk with hk | hk
      · exact hn2.2.2 k hk k (.inl hy) rfl
      · exact hn2.2.1.2.2 k hy k hk rfl
    have hkeep : ∀ k, k ∈ F1 ∨ k ∈ F2 → w'.heap[k]? = w.heap[k]? := fun k hk => hc.keep (hdis k hk).2.2 (hdis k hk).1 (hdis k hk).2.1
    refine ⟨F1 ++ (Fy' ++ F2), ⟨_, hp w' csy' y' Fy' hkeep h1, fun j u hj => ?_, ?_, ?_⟩, fun k hk => ?_, hc.wide (by omega) (by omega) (fun k hk => mem_mid.2 (.inr (.inl hk)))⟩
    · by_cases hj1 : j < d
      · have h := hat j u (by rw [List.getElem?_append_left (by omega)] at hj ⊢; exact hj)
        rw [hc.cell (by omega)]; exact h
      · rw [List.getElem?_append_right (by omega), hA] at hj
        by_cases hj2 : j - d < csy'.length
        · rw [List.getElem?_append_left hj2] at hj
          have := h2 _ u hj
          rwa [show o + d + (j - d) = o + j by omega] at this
        · rw [List.getElem?_append_right (by omega)] at hj
          have h := hat j u (by rw [List.getElem?_append_right (by omega), List.getElem?_append_right (by omega), hA, hl, ← hl']; exact hj)
          rw [hc.cell (by omega)]; exact h
    · have h3n := List.nodup_cons.1 h3.1
      refine List.nodup_cons.2 ⟨fun hm => ?_, mid_nodup hn2 h3n.2 fun k hk => ?_⟩
      · rcases mem_mid.1 hm with hm | hm | hm
        · exact hnb (mem_mid.2 (.inl hm))
        · exact h3n.1 hm
        · exact hnb (mem_mid.2 (.inr (.inr hm)))
      · rcases hf k hk with h | h
        · exact ⟨fun hm => (hdis k (.inl hm)).2.1 h, fun hm => (hdis k (.inr hm)).2.1 h⟩
        · exact ⟨fun hm => by have := (hdis k (.inl hm)).2.2; omega, fun hm => by have := (hdis k (.inr hm)).2.2; omega⟩
    · intro k hk
      rcases List.mem_cons.1 hk with rfl | hk
      · exact h3.2 k (List.mem_cons_self ..)
      · rcases mem_mid.1 hk with hm | hm | hm
        · have := ho.2 k (List.mem_cons_of_mem _ (mem_mid.2 (.inl hm)))
          exact ⟨this.1, hc.2.2.2.2 k this.2⟩
        · exact h3.2 k (List.mem_cons_of_mem _ hm)
        · have := ho.2 k (List.mem_cons_of_mem _ (mem_mid.2 (.inr (.inr hm))))
          exact ⟨this.1, hc.2.2.2.2 k this.2⟩
    · rcases mem_mid.1 hk with hm | hm | hm
      · exact .inl (mem_mid.2 (.inl hm))
      · exact .inr hm
      · exact .inl (mem_mid.2 (.inr (.inr hm)))
/-- An element of a slice. -/
theorem Lens.index {α : Type} [GT α] {w : World} {b o : Nat} {xs : List α} {F : List Nat} {a : Option Addr} {n c : Nat} (hs : Sl w (.slice a n c) xs F) (hat : At w b o [.slice a n c]) (hnd : (b :: F).Nodup) (hlt : ∀ k ∈ b :: F, k < w.heap.size) (i : Nat) (hi : i < xs.length) :
    ∃ g s Fy x, a = some ⟨g, s, none⟩ ∧ Hid (xs[i]? = some x) ∧ Lens w b o xs F g (s + i * GT.sz α) x Fy (fun y => xs.set i y) := by
  obtain ⟨a', c', he, hl, hc, ⟨rfl, rfl⟩ | ⟨hne, g, s, F', rfl, rfl, hr⟩⟩ := hs
  · cases hi
  cases he
  have hsp : xs = xs.take i ++ xs[i] :: xs.drop (i + 1) := by rw [List.getElem_cons_drop, List.take_append_drop]
  have hr' := hr
  rw [hsp] at hr'
  obtain ⟨F1, F2, rfl, hr1, hr2⟩ := hr'.split
  have hlen : (xs.take i).length = i := by rw [List.length_take]; omega
  rw [hlen] at hr2
  obtain ⟨cs, F0, F3, henc, hate, rfl, hr3⟩ := hr2
  have hb0 := (List.nodup_cons.1 hnd).1
  have hnd1 := (List.nodup_cons.1 hnd).2
  have hg := (List.nodup_cons.1 hnd1).1
  have hnd2 := (List.nodup_cons.1 hnd1).2
  have hlc := GT.len henc
  have hdis : ∀ k, k ∈ F1 ∨ k ∈ F3 → k ≠ g ∧ k ∉ F0 ∧ k < w.heap.size := fun k hk => by
    have hm : k ∈ F1 ++ (F0 ++ F3) := mem_mid.2 (hk.elim .inl (fun h => .inr (.inr h)))
    refine ⟨fun e => hg (e ▸ hm), fun hy => ?_, hlt k (by simp only [List.mem_cons]; exact .inr (.inr hm))⟩
    simp only [List.nodup_append, List.mem_append] at hnd2
    rcases hk with hk | hk
    · exact hnd2.2.2 k hk k (.inl hy) rfl
    · exact hnd2.2.1.2.2 k hy k hk rfl
  refine ⟨g, s, F0, xs[i], rfl, by unfold Hid; simp [hi], ?_⟩
  refine { sub := fun k hk => ?_, nd := ?_, enc := ⟨cs, henc, hate⟩, back := fun L w' y' Fy' ho hch hz hf => ?_ }
  · rcases List.mem_cons.1 hk with rfl | hk
    · simp
    · simp [hk]
  · refine List.nodup_cons.2 ⟨fun hm => hg (mem_mid.2 (.inr (.inl hm))), ?_⟩
    simp only [List.nodup_append] at hnd2
    exact hnd2.2.1.1
  · obtain ⟨csy, h1, h2, h3⟩ := hz
    have hl' := GT.len h1
    have hkeep : ∀ k, k ∈ F1 ∨ k ∈ F3 → w'.heap[k]? = w.heap[k]? := fun k hk => hch.keep (hdis k hk).2.2 (hdis k hk).1 (hdis k hk).2.1
    have hbg : b ≠ g := fun e => hb0 (by rw [e]; exact List.mem_cons_self ..)
    have hbk : w'.heap[b]? = w.heap[b]? := hch.keep (hlt b (List.mem_cons_self ..)) hbg (fun hm => hb0 (List.mem_cons_of_mem _ (mem_mid.2 (.inr (.inl hm)))))
    have hset : xs.set i y' = xs.take i ++ y' :: xs.drop (i + 1) := by rw [List.set_eq_take_append_cons_drop, if_pos hi]
    have h3n := List.nodup_cons.1 h3.1
    have hlt0 : ∀ k ∈ F1 ++ (F0 ++ F3), k < w.heap.size := fun k hk => hlt k (List.mem_cons_of_mem _ (List.mem_cons_of_mem _ hk))
    have hnew : ∀ k, k ∈ F1 ++ (Fy' ++ F3) → k ∈ F1 ++ (F0 ++ F3) ∨ w.heap.size ≤ k := fun k hk => by
      rcases mem_mid.1 hk with hm | hm | hm
      · exact .inl (mem_mid.2 (.inl hm))
      · rcases hf k hm with h | h
        · exact .inl (mem_mid.2 (.inr (.inl h)))
        · exact .inr h
      · exact .inl (mem_mid.2 (.inr (.inr hm)))
    refine ⟨g :: (F1 ++ (Fy' ++ F3)), ⟨[.slice (some ⟨g, s, none⟩) xs.length c], ⟨_, rfl, some ⟨g, s, none⟩, c, by simp, by simpa using hl, hc, .inr ⟨set_ne_nil hne, g, s, _, rfl, rfl, ?_⟩⟩, hat.keep hbk, ?_, ?_⟩, ?_, ?_⟩
    · rw [hset]
      refine Row.append (hr1.move (fun k hk' => hkeep k (.inl hk')) fun j u hj hu => ?_) ?_
      · rw [hlen] at hj
        rw [hch.cell (by left; omega)]; exact hu
      · rw [hlen]
        refine ⟨csy, Fy', F3, h1, h2, rfl, hr3.move (fun k hk' => hkeep k (.inr hk')) fun j u hj hu => ?_⟩
        rw [hch.cell (by right; omega)]; exact hu
    · have hgn : g ∉ F1 ++ (Fy' ++ F3) := fun hm => by
        rcases mem_mid.1 hm with hm | hm | hm
        · exact hg (mem_mid.2 (.inl hm))
        · exact h3n.1 hm
        · exact hg (mem_mid.2 (.inr (.inr hm)))
      refine List.nodup_cons.2 ⟨fun hm => ?_, List.nodup_cons.2 ⟨hgn, mid_nodup hnd2 h3n.2 fun k hk => ?_⟩⟩
      · rcases List.mem_cons.1 hm with e | hm
        · exact hbg e
        · rcases hnew b hm with h | h
          · exact hb0 (List.mem_cons_of_mem _ h)
          · have := hlt b (List.mem_cons_self ..); omega
      · rcases hf k hk with h | h
        · exact ⟨fun hm => (hdis k (.inl hm)).2.1 h, fun hm => (hdis k (.inr hm)).2.1 h⟩
        · exact ⟨fun hm => by have := (hdis k (.inl hm)).2.2; omega, fun hm => by have := (hdis k (.inr hm)).2.2; omega⟩
    · intro k hk
      have hold : ∀ k, k ∈ b :: g :: (F1 ++ (F0 ++ F3)) → L ≤ k ∧ Fz w' k := fun k hk => ⟨(ho.2 k hk).1, hch.2.2.2.2 k (ho.2 k hk).2⟩
      rcases List.mem_cons.1 hk with rfl | hk
      · exact hold _ (by simp)
      rcases List.mem_cons.1 hk with rfl | hk
      · exact hold _ (by simp)
      rcases mem_mid.1 hk with hm | hm | hm
      · exact hold k (by simp [hm])
      · exact h3.2 k (List.mem_cons_of_mem _ hm)
      · exact hold k (by simp [hm])
    · intro k hk
      rcases List.mem_cons.1 hk with rfl | hk
      · exact .inl (List.mem_cons_self ..)
      · rcases mem_mid.1 hk with hm | hm | hm
        · exact .inl (List.mem_cons_of_mem _ (mem_mid.2 (.inl hm)))
        · exact .inr hm
        · exact .inl (List.mem_cons_of_mem _ (mem_mid.2 (.inr (.inr hm))))
    · exact hch.up (fun hm => by
        rcases List.mem_cons.1 hm with e | hm
        · exact hbg e
        · exact hb0 (List.mem_cons_of_mem _ (mem_mid.2 (.inr (.inl hm))))) (hlt b (List.mem_cons_self ..)) (fun k hk => by
        rcases List.mem_cons.1 hk with rfl | hk
        · simp
        · simp [hk])
end Sk

