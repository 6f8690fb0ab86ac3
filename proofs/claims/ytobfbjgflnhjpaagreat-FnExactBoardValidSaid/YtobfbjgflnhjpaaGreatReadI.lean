/- Contracts of functions of the given program, and lemmas for them: each theorem states the condition under which it holds. -/
import Derived.Test.YtobfbjgflnhjpaaGreatChecked
import Derived.Deep.CutBlock
import Derived.Deep.CutRange
import Derived.Test.YtobfbjgflnhjpaaGreatDel
import Derived.Test.YtobfbjgflnhjpaaGreatCopy
import Derived.Test.YtobfbjgflnhjpaaGreatRefc
import Derived.Test.YtobfbjgflnhjpaaGreatThr
namespace Sk
open Go Go.Proofs Go.RowKit
set_option maxHeartbeats 4000000
set_option maxRecDepth 100000
set_option linter.unusedVariables false
set_option linter.unusedSimpArgs false
def RngS (s : M.St) : Prop := ∀ x ∈ s.1, rng x
theorem RngS.nx {s : M.St} (h : RngS s) : rng (M.nx s) := by
  obtain ⟨xs, b⟩ := s
  cases xs with
  | nil => exact rng_zero
  | cons x xs => exact h x (List.mem_cons_self ..)
theorem RngS.ns {s : M.St} (h : RngS s) : RngS (M.ns s) := fun x hx => h x (List.mem_of_mem_tail hx)
theorem M.dec_rng {x : Int} (h : rng x) : rng (M.dec x) := by
  unfold M.dec rng at *
  split <;> omega
theorem Rs.rngs {w : World} {v : Value} {xs : List Int} (h : Rs w v xs) : ∀ x ∈ xs, rng x := fun x hx => by
  obtain ⟨k, hk⟩ := List.getElem?_of_mem hx
  obtain ⟨a, c, rfl, _⟩ := h.form
  obtain ⟨b, o, y, _, _, hy, _, hr⟩ := h.atInt k (List.getElem?_eq_some_iff.1 hk).1
  have := hy.out
  rw [hk] at this; cases this; exact hr
end Sk

namespace Sk
open Go Go.Proofs Go.RowKit
set_option maxHeartbeats 4000000
set_option maxRecDepth 100000
set_option linter.unusedVariables false
set_option linter.unusedSimpArgs false
/-- A struct's value whose blocks lie from L on. -/
def Rvb {α : Type} [GT α] (L : Nat) (w : World) (v : Value) (x : α) : Prop := ∃ cs F, v = .agg cs.toArray ∧ GT.enc w cs x F ∧ ∀ k ∈ F, L ≤ k
theorem Rvb.rv {α : Type} [GT α] {L : Nat} {w : World} {v : Value} {x : α} (h : Rvb L w v x) : Rv w v x := by
  obtain ⟨cs, F, h1, h2, _⟩ := h
  exact ⟨cs, F, h1, h2⟩
theorem rvb_zero {α : Type} [GT α] {L : Nat} {w : World} : Rvb L w (.agg (GT.zc α).toArray) (default : α) := ⟨_, [], rfl, GT.zero w, fun k hk => by cases hk⟩
end Sk

namespace Sk
open Go Go.Proofs Go.RowKit
set_option maxHeartbeats 1600000
set_option maxRecDepth 100000
set_option linter.unusedVariables false
set_option linter.unusedSimpArgs false
/-- A byte. -/
structure By where
  v : Int
instance instGTBy : GT By where
  default := ⟨0⟩
  sz := 1
  enc _ cs x F := cs = [.int .u8 x.v] ∧ 0 ≤ x.v ∧ x.v ≤ 255 ∧ F = []
  pos := Nat.one_pos
  len := by rintro w cs x F ⟨rfl, _⟩; rfl
  one := by rintro w cs x F ⟨rfl, _, _, rfl⟩ u hu; simp at hu; subst hu; rfl
  inh := by rintro w cs x F ⟨rfl, _, _, rfl⟩ b hb; cases hb
  keep := by rintro w w' cs x F ⟨rfl, h, h2, rfl⟩ _; exact ⟨rfl, h, h2, rfl⟩
  tot _ := 0
  ct _ := 1
  mkE x _ := x
  mkE_ct _ _ := rfl
  mkE_idem _ _ := rfl
  zc := [.int .u8 0]
  zero _ := ⟨rfl, by decide, by decide, rfl⟩
theorem Rs.atBy {w : World} {a : Option Addr} {n c : Nat} {xs : List By} (h : Rs w (.slice a n c) xs) (k : Nat) (hk : k < xs.length) :
    ∃ b o x, a = some ⟨b, o, none⟩ ∧ b < w.heap.size ∧ w.cell? ⟨b, o + k, none⟩ = some (.int .u8 x) ∧ 0 ≤ x ∧ x ≤ 255 := by
  obtain ⟨b, o, cs, F, x, rfl, hb, hx, ⟨rfl, h1, h2, _⟩, ha⟩ := h.at k hk
  exact ⟨b, o, x.v, rfl, hb, by simpa [GT.sz] using ha 0 _ rfl, h1, h2⟩
/-- What one reads through blocks from L on. -/
def Rsb {α : Type} [GT α] (L : Nat) (w : World) (v : Value) (xs : List α) : Prop := ∃ F, Sl w v xs F ∧ ∀ k ∈ F, L ≤ k
theorem Rsb.rs {α : Type} [GT α] {L : Nat} {w : World} {v : Value} {xs : List α} (h : Rsb L w v xs) : Rs w v xs := by obtain ⟨F, h, _⟩ := h; exact ⟨F, h⟩
theorem Rsb.mw {α : Type} [GT α] {L : Nat} {w w' : World} {v : Value} {xs : List α} {F : List Nat} (h : Rsb L w v xs) (k : Mw F w w') (hF : ∀ x ∈ F, x < L) : Rsb L w' v xs := by
  obtain ⟨G, h1, h2⟩ := h
  exact ⟨G, k.sl h1 (fun y hy hf => by have := h2 y hy; have := hF y hf; omega), h2⟩
theorem Rsb.ext {α : Type} [GT α] {L : Nat} {w w' : World} {v : Value} {xs : List α} (h : Rsb L w v xs) (k : Ext w w') : Rsb L w' v xs := by
  obtain ⟨G, h1, h2⟩ := h; exact ⟨G, h1.ext k, h2⟩
theorem Rsb.mono {α : Type} [GT α] {L L' : Nat} {w : World} {v : Value} {xs : List α} (h : Rsb L w v xs) (k : L' ≤ L) : Rsb L' w v xs := by
  obtain ⟨G, h1, h2⟩ := h; exact ⟨G, h1, fun x hx => Nat.le_trans k (h2 x hx)⟩
theorem Oo.rsb {α : Type} [GT α] {e : TypeId} {L : Nat} {w : World} {v : Value} {xs : List α} (h : Oo e L w v xs) : Rsb L w v xs := by
  obtain ⟨F, h1, h2⟩ := h.os; exact ⟨F, h1, fun k hk => (h2.2 k hk).1⟩
/-- What a pick out of n may be. -/
def PickR (n k : Int) : Prop := 0 ≤ k ∧ (1 ≤ n → k < n) ∧ (n < 1 → k = 0)
theorem Rs.take {α : Type} [GT α] {w : World} {a : Option Addr} {n c k : Nat} {xs : List α} (h : Rs w (.slice a n c) xs) (hk : k ≤ xs.length) : Rs w (.slice a k c) (xs.take k) := by
  obtain ⟨F, a', c', he, hl, hc, hr⟩ := h
  cases he
  have hlen : (xs.take k).length = k := by rw [List.length_take]; omega
  rcases hr with ⟨rfl, rfl⟩ | ⟨_, b, o, F', rfl, rfl, hr⟩
  · exact ⟨[], _, c, by rw [hlen], by rw [hlen]; exact Nat.le_trans hk hl, hc, .inl ⟨by simp, rfl⟩⟩
  · rw [← List.take_append_drop k xs] at hr
    obtain ⟨F1, F2, rfl, h1, _⟩ := hr.split
    by_cases hx : xs.take k = []
    · exact ⟨[], _, c, by rw [hlen], by rw [hlen]; exact Nat.le_trans hk hl, hc, .inl ⟨hx, rfl⟩⟩
    · exact ⟨b :: F1, _, c, by rw [hlen], by rw [hlen]; exact Nat.le_trans hk hl, hc, .inr ⟨hx, b, o, F1, rfl, rfl, h1⟩⟩
end Sk

namespace Sk
open Go Go.Proofs Go.RowKit
set_option maxHeartbeats 1600000
set_option maxRecDepth 100000
set_option linter.unusedVariables false
set_option linter.unusedSimpArgs false
theorem Os.rsb {α : Type} [GT α] {L : Nat} {w : World} {v : Value} {xs : List α} (h : Os L w v xs) : Rsb L w v xs := by
  obtain ⟨F, h1, h2⟩ := h
  exact ⟨F, h1, fun k hk => (h2.2 k hk).1⟩
theorem Rsb.form {α : Type} [GT α] {L : Nat} {w : World} {v : Value} {xs : List α} (h : Rsb L w v xs) : ∃ a c, v = .slice a xs.length c ∧ xs.length ≤ 9223372036854775807 := h.rs.form
theorem rng_sm {n : Int} (h1 : -1000000 ≤ n) (h2 : n ≤ 1000000) : rng n := ⟨by omega, by omega⟩
theorem PickR.bd {n k : Int} (h : PickR n k) (hn : n ≤ 1000) : 0 ≤ k ∧ k ≤ 1000 := by
  obtain ⟨h1, h2, h3⟩ := h
  by_cases hx : 1 ≤ n
  · have := h2 hx; omega
  · have := h3 (by omega); omega
theorem PickR.lt {n k : Int} (h : PickR n k) (hn : 1 ≤ n) : 0 ≤ k ∧ k < n := ⟨h.1, h.2.1 hn⟩
/-- A number out of a literal, behind a call that turned one block. -/
theorem lit_pick {u w' : World} {b : Nat} {zs : List Int} {T : TypeId} {k n : Int} (hm : Mo [b] (u.alloc (.cells (zs.map fun z => Value.int .i64 z).toArray T (0, 0))) w') (hb : b < u.heap.size) (hk : PickR n k) (hn : n = zs.length) (hz : 0 < zs.length) :
    ∃ z, w'.cell? ⟨u.heap.size, k.toNat, none⟩ = some (.int .i64 z) ∧ z ∈ zs := by
  have h1 := hk.lt (by omega)
  have hk2 : k.toNat < zs.length := by omega
  refine ⟨zs[k.toNat], ?_, List.getElem_mem _⟩
  rw [hm.cell (by simp; omega)]
  refine (Bk.new u (zs.map fun z => Value.int .i64 z) T).cell ?_
  simp [hk2]
end Sk

namespace Sk
open Go Go.Proofs Go.RowKit
set_option maxHeartbeats 1600000
set_option maxRecDepth 100000
set_option linter.unusedVariables false
set_option linter.unusedSimpArgs false
/-- A row of flags that one may append to. -/
structure Ab where
  v : List Bool
instance instGTAb : GT Ab where
  default := ⟨[]⟩
  sz := 1
  enc w cs x F := ∃ val, cs = [val] ∧ Oa 4 0 w val x.v [] ∧ F = val.ownBlock.toList
  pos := Nat.one_pos
  len := by rintro w cs x F ⟨v, rfl, _⟩; rfl
  one := by
    rintro w cs x F ⟨v, rfl, h, _⟩ u hu
    obtain ⟨a, c, rfl, _⟩ := h.form
    simp at hu; subst hu; rfl
  inh := by rintro w cs x F ⟨v, rfl, h, rfl⟩ b hb; exact h.lt b (Option.mem_toList.1 hb)
  keep := by
    rintro w w' cs x F ⟨v, rfl, h, rfl⟩ hk
    exact ⟨v, rfl, h.keep (fun k hv => hk k (Option.mem_toList.2 hv)) (fun k hk => by cases hk), rfl⟩
  tot x := x.v.length
  ct _ := 1
  mkE x _ := x
  mkE_ct _ _ := rfl
  mkE_idem _ _ := rfl
  zc := [.slice none 0 0]
  zero w := ⟨_, rfl, Oa.nil _ _ _, rfl⟩
theorem Oo.ownB {e : TypeId} {L : Nat} {w : World} {v : Value} {xs : List Bool} (h : Oo e L w v xs) : Own L w v.ownBlock.toList := by
  obtain ⟨F, h, _⟩ := h
  rcases h with ⟨rfl, _⟩ | ⟨g, cap, cur, rfl, hL, hg, _⟩
  · exact Own.nil _ _
  · exact ⟨by simp [Value.ownBlock], fun k hk => by have := Option.mem_toList.1 hk; cases this; exact ⟨hL, _, _, Bk.ofA hg⟩⟩
theorem Rsb.nil {α : Type} [GT α] {L : Nat} {w : World} {a : Option Addr} {n c : Nat} {xs : List α} (h : n = 0) (hx : xs = []) (hc : c ≤ 9223372036854775807) : Rsb L w (.slice a n c) xs := by
  subst h; subst hx
  exact ⟨[], ⟨_, c, rfl, Nat.zero_le _, by unfold maxLen; omega, .inl ⟨rfl, rfl⟩⟩, fun k hk => by cases hk⟩
/-- What is known of a policy that was drawn. -/
def M.drawnP (ps : List (List Bool)) : Prop := ps.length ≤ 6 ∧ ∀ r ∈ ps, r.length ≤ 7
theorem M.drawnP.nil : M.drawnP [] := ⟨by simp, fun r hr => by cases hr⟩
theorem M.drawnP.map {xs : List Ab} (h : xs.length ≤ 6) (k : ∀ x ∈ xs, x.v.length ≤ 6) : M.drawnP (xs.map Ab.v) :=
  ⟨by simpa using h, fun r hr => by obtain ⟨x, hx, rfl⟩ := List.mem_map.1 hr; have := k x hx; omega⟩
theorem M.drawnP.cons {r : List Bool} {xs : List Ab} (hr : r.length ≤ 7) (h : xs.length + 1 ≤ 6) (k : ∀ x ∈ xs, x.v.length ≤ 6) : M.drawnP (r :: xs.map Ab.v) :=
  ⟨by simpa using h, fun q hq => by
    rcases List.mem_cons.1 hq with rfl | hq
    · exact hr
    · obtain ⟨x, hx, rfl⟩ := List.mem_map.1 hq; have := k x hx; omega⟩
theorem Oa.turn0 {w : World} {e : TypeId} {L g n c : Nat} {xs : List Bool} (h : Oa e L w (.slice (some ⟨g, 0, none⟩) n c) xs []) (hx : 0 < xs.length) (y : Bool) :
    Sl (w.setCell ⟨g, 0, none⟩ (.bool y)) (.slice (some ⟨g, 0, none⟩) n c) (xs.set 0 y) [g] := by
  rcases h with ⟨h, _⟩ | ⟨g, cap, cur, he, hL, hg, hl, hc, hs, hr, hn⟩
  · cases h
  · cases he
    cases xs with
    | nil => cases hx
    | cons x xs =>
      obtain ⟨cs, F1, F2, ⟨rfl, rfl⟩, ha, hF, hr2⟩ := hr
      obtain ⟨_, rfl⟩ := List.append_eq_nil_iff.1 hF.symm
      refine ⟨_, c, by simp, by simpa using hl, hc, .inr ⟨by simp, g, 0, [], rfl, rfl, [.bool y], [], [], ⟨rfl, rfl⟩, fun j u hj => ?_, rfl, hr2.move (fun k hk => by cases hk) fun j u _ hu => ?_⟩⟩
      · cases j with
        | zero => cases hj; exact World.cell?_setCell_same _ _ _ (ha 0 _ rfl)
        | succ j => cases hj
      · rw [cell_set_other (by show 0 ≠ 0 + 1 + j; omega)]; exact hu
theorem wpl_appC {α : Type} [GT α] {P : Program} {w : World} {ops : Array Oper} {rest : List Oper} {o : Oper} {a : Act} {Q : Exit → Act → World → Prop} (hgd : o.guard = none) (s x : Operand) (t : TypeId)
    (ho : o.op = .call { callee := .builtin .append, args := #[s, x], argTypes := #[t, t] }) (e : TypeId) (ht : P.underlying t = some (.slice e)) (hel : El P e α)
    {L M : Nat} {v : Value} {xs ys : List α} {Fy : List Nat} (hs : a.eval s = v) (hO : Oob e L M w v xs) (hL : L ≤ M) (hM : M ≤ w.heap.size) {ab ao m c : Nat} (hx : a.eval x = .slice (some ⟨ab, ao, none⟩) m c) (hm : ys.length = m) (hy : Row w ab ao ys Fy)
    (hm0 : 0 < m) (hown : Own M w Fy) (hlen : xs.length + m ≤ 4294967296)
    (h : ∀ v' w', Oo e L w' v' (xs ++ ys) → Mw v.ownBlock.toList w w' → (v'.ownBlock = v.ownBlock ∨ v'.ownBlock = some w.heap.size) → wpList P ops Q rest (a.put o.dst v') w') : wpList P ops Q (o :: rest) a w :=
  wpList_plain hgd fun _ hK => wp_appB s x t ho e ht hel hs hO hL hM hx hm hy hm0 hown hlen fun v' w' h1 h2 h3 => hK _ _ (h v' w' h1 h2 h3)
end Sk

