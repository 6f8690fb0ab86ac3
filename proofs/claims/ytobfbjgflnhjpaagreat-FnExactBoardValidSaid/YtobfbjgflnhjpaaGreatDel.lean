/- Contracts of functions of the given program, and lemmas for them: each theorem states the condition under which it holds. -/
import Derived.Test.YtobfbjgflnhjpaaGreatChecked
import Derived.Lib.SliceRun
import Derived.Deep.CutBlock
import Derived.Deep.CutRange
import Derived.Test.YtobfbjgflnhjpaaGreatCopy
import Derived.Test.YtobfbjgflnhjpaaGreatGaps
import Derived.Test.YtobfbjgflnhjpaaGreatBuild
import Derived.Test.YtobfbjgflnhjpaaGreatNums
import Derived.Test.YtobfbjgflnhjpaaGreatTypes
import Derived.Test.YtobfbjgflnhjpaaGreatThr
namespace Sk
open Go Go.Proofs Go.RowKit
set_option maxHeartbeats 4000000
set_option maxRecDepth 100000
set_option linter.unusedVariables false
set_option linter.unusedSimpArgs false
theorem chg_setCells (b : Nat) : ∀ (vs : List Value) (o : Nat) (w : World), Chg b o vs.length [] w (w.setCells b o vs)
  | [], o, w => Chg.refl _ _ _ _ _
  | v :: vs, o, w => by
    have h1 : Chg b o (vs.length + 1) [] w (w.setCell ⟨b, o, none⟩ v) := (Chg.refl _ _ _ _ _).set ⟨Nat.le_refl _, by omega⟩ _
    have h2 := chg_setCells b vs (o + 1) (w.setCell ⟨b, o, none⟩ v)
    exact h1.trF (h2.wide (by omega) (by omega) (fun _ h => h)) (fun _ h => by cases h)
theorem run_clear {α : Type} [GT α] {P : Program} (w : World) (t e : TypeId) (ht : P.underlying t = some (.slice e)) (hel : El P e α) (b o n c : Nat)
    (hc : ∀ j, j < n * GT.sz α → ∃ u, w.cell? ⟨b, o + j, none⟩ = some u) (hf : ∀ j, w.frozen? ⟨b, j, none⟩ = false) :
    ∃ w', (∀ ty, (Builtin.clear_ #[t] ty #[.slice (some ⟨b, o, none⟩) n c]).run P w = .ok (.tuple #[]) w') ∧ Chg b o (n * GT.sz α) [] w w' := by
  by_cases hn : n = 0
  · subst hn
    exact ⟨w, fun ty => by simp [Builtin.clear_, run_underlying ht], by rw [Nat.zero_mul]; exact Chg.refl _ _ _ _ _⟩
  · obtain ⟨i, z, bytes, hi, hz, hsz, hby, hzc, hb⟩ := hel
    have hzl : z.cells.size = GT.sz α := by rw [← GT.len (GT.zero (α := α) w), ← hzc]; simp
    have hlen : (Builtin.zeroCells z.cells n).toList.length = n * GT.sz α := by simp [Builtin.zeroCells, hzl]
    have h1 : ∀ v ∈ (Builtin.zeroCells z.cells n).toList, v.oneCell' = true := by
      intro v hv
      simp only [Builtin.zeroCells, Array.toList_map, List.mem_map, Array.mem_toList_iff, Array.mem_range] at hv
      obtain ⟨k, hk, rfl⟩ := hv
      have hp : 0 < z.cells.size := by rw [hzl]; exact GT.pos
      have hm := Nat.mod_lt k hp
      rw [getElem!_pos z.cells _ hm]
      exact GT.one (GT.zero (α := α) w) _ (by rw [← hzc]; simp)
    have hst := run_storeCells_cells (P := P) b o (Builtin.zeroCells z.cells n).toList 0 w (fun j hj => by rw [hlen] at hj; obtain ⟨u, hu⟩ := hc j hj; simp [hu]) (fun j hj => hf _) h1
    simp only [Nat.add_zero] at hst
    obtain ⟨m, rfl⟩ : ∃ m, n = m + 1 := ⟨n - 1, by omega⟩
    have hv : (zeroValue e).run P w = .ok z w := by simp [zeroValue, typeInfo, hi, hz]
    refine ⟨_, fun ty => by simp [Builtin.clear_, run_underlying ht, hv, hst]; rfl, ?_⟩
    have := chg_setCells b (Builtin.zeroCells z.cells (m + 1)).toList o w
    rwa [hlen] at this
theorem Chg.gb {b o n : Nat} {a c : World} (h : Chg b o n [] a c) : a.grownBy c (some b) := ⟨h.1.os, h.1.tape, h.1.output, h.sz, fun k hk hne => h.keep hk (fun e => hne (by rw [e])) (by simp)⟩
end Sk

namespace Sk
open Go Go.Proofs Go.RowKit
set_option maxHeartbeats 4000000
set_option maxRecDepth 100000
set_option linter.unusedVariables false
set_option linter.unusedSimpArgs false
theorem Rs.tailI {W : World} {b o n c : Nat} {x : Int} {xs : List Int} (h : Rs W (.slice (some ⟨b, o, none⟩) n c) (x :: xs)) : Rs W (.slice (some ⟨b, o + 1, none⟩) (n - 1) (c - 1)) xs := by
  obtain ⟨F, a, c', he, hl, hc, ⟨h1, _⟩ | ⟨_, b', o', F', h1, rfl, hr⟩⟩ := h
  · cases h1
  · cases he; cases h1
    obtain ⟨cs, F1, F2, _, _, rfl, hr⟩ := hr
    simp only [List.length_cons] at hl
    by_cases hx : xs = []
    · subst hx; exact ⟨[], some ⟨b, o + 1, none⟩, c - 1, by simp, by simp, by unfold maxLen at *; omega, .inl ⟨rfl, rfl⟩⟩
    · exact ⟨b :: F2, some ⟨b, o + 1, none⟩, c - 1, by simp, by omega, by unfold maxLen at *; omega, .inr ⟨hx, b, o + 1, F2, rfl, rfl, by simpa [GT.sz] using hr⟩⟩
def M.hd : List Int → Int
  | [] => 0
  | x :: _ => x
theorem Rs.nilI {W : World} {a : Option Addr} {c : Nat} (hc : c ≤ 9223372036854775807) : Rs (α := Int) W (.slice a 0 c) [] := ⟨[], a, c, rfl, Nat.zero_le _, hc, .inl ⟨rfl, rfl⟩⟩
theorem Mo.bk {F : List Nat} {a b : World} {p : Nat} {cs : List Value} {T : TypeId} (h : Mo F a b) (k : Bk a p cs T) (hp : p ∉ F) : Bk b p cs T := (Mx.ofMo h).bk k hp
theorem Mo.cell {F : List Nat} {a b : World} (h : Mo F a b) {p o : Nat} (hp : p ∉ F) : b.cell? ⟨p, o, none⟩ = a.cell? ⟨p, o, none⟩ := World.cell?_of_block (h.2.2.1 p hp)
theorem Oo.mo {α : Type} [GT α] {e : TypeId} {L : Nat} {w w' : World} {v : Value} {xs : List α} {F : List Nat} (h : Oo e L w v xs) (k : Mo F w w') (hF : ∀ x ∈ F, x < L) : Oo e L w' v xs := by
  obtain ⟨G, h1, h2⟩ := h
  exact ⟨G, h1.keep (fun x hx => k.2.2.1 x (fun hm => by have := h1.own x hx; have := hF x hm; omega)) (fun x hx => k.2.2.1 x (fun hm => by have := (h2.2 x hx).1; have := hF x hm; omega)), k.own h2⟩
theorem Mo.drewN {F : List Nat} {a b : World} (h : Mo F a b) (n : Nat) : Mo F a (b.drewN n) := by
  obtain ⟨h1, h2, h3, h4⟩ := h
  exact ⟨h1, ⟨h2.os, h2.tape, h2.output, Nat.le_refl _, fun b hb => by cases hb⟩, h3, fun k hk => (h4 k hk).ext ((Ext.refl _).drewN n)⟩
theorem Mo.lt {F : List Nat} {a b : World} (h : Mo F a b) : b.heap.size = a.heap.size := h.1
def M.many (xs : List Int) (m : Int) : Int := if M.inn (M.hd xs) 0 m then M.hd xs else 0
def M.manyB (xs : List Int) (bad : Bool) (m : Int) : Bool := (bad || xs.isEmpty) || !M.inn (M.hd xs) 0 m
end Sk

namespace Sk
open Go Go.Proofs Go.RowKit
set_option linter.unusedVariables false
set_option linter.unusedSimpArgs false
abbrev M.St := List Int × Bool
def M.nx (s : M.St) : Int := M.hd s.1
def M.ns (s : M.St) : M.St := (s.1.tail, s.2 || s.1.isEmpty)
def M.mx (m : Int) (s : M.St) : Int := M.many s.1 m
def M.ms (m : Int) (s : M.St) : M.St := (s.1.tail, M.manyB s.1 s.2 m)
/-- One less, as the machine reckons. -/
def M.dec (x : Int) : Int := if x = -9223372036854775808 then 9223372036854775807 else x - 1
def M.iter {α : Type} (f : M.St → α × M.St) : Nat → M.St → List α × M.St
  | 0, s => ([], s)
  | n + 1, s => ((M.iter f n s).1 ++ [(f (M.iter f n s).2).1], (f (M.iter f n s).2).2)
/-- The same, but nothing is read any more once reading has failed. -/
def M.iterB {α : Type} (f : M.St → α × M.St) : Nat → M.St → List α × M.St
  | 0, s => ([], s)
  | n + 1, s => if (M.iterB f n s).2.2 then M.iterB f n s else ((M.iterB f n s).1 ++ [(f (M.iterB f n s).2).1], (f (M.iterB f n s).2).2)
theorem M.iter_len {α : Type} (f : M.St → α × M.St) (n : Nat) (s : M.St) : (M.iter f n s).1.length = n := by
  induction n with
  | zero => rfl
  | succ n ih => simp only [M.iter, List.length_append, ih, List.length_cons, List.length_nil]
theorem M.iterB_len {α : Type} (f : M.St → α × M.St) (n : Nat) (s : M.St) : (M.iterB f n s).1.length ≤ n := by
  induction n with
  | zero => exact Nat.le_refl _
  | succ n ih =>
    simp only [M.iterB]
    split
    · omega
    · simp only [List.length_append, List.length_cons, List.length_nil]; omega
theorem M.iterB_bad {α : Type} (f : M.St → α × M.St) (s : M.St) : ∀ {n : Nat} (k : Nat), (M.iterB f n s).2.2 = true → M.iterB f (n + k) s = M.iterB f n s := by
  intro n k h
  induction k with
  | zero => rfl
  | succ k ih => rw [← Nat.add_assoc, M.iterB, ih, if_pos h]
def M.iW1 (s : M.St) : Window × M.St := (⟨M.nx s, M.nx (M.ns s), M.nx (M.ns (M.ns s)) == 1⟩, M.ns (M.ns (M.ns s)))
def M.iP1 (s : M.St) : Part × M.St :=
  (⟨(M.iter M.iW1 (M.mx 12 (M.ns s)).toNat (M.ms 12 (M.ns s))).1, M.nx s⟩, (M.iter M.iW1 (M.mx 12 (M.ns s)).toNat (M.ms 12 (M.ns s))).2)
def M.iC1 (s : M.St) : Channel × M.St := (⟨M.nx s, M.nx (M.ns s), M.nx (M.ns (M.ns s)), M.nx (M.ns (M.ns (M.ns s)))⟩, M.ns (M.ns (M.ns (M.ns s))))
def M.iS1 (s : M.St) : Slot × M.St := (⟨M.dec (M.nx s), M.nx (M.ns s)⟩, M.ns (M.ns s))
def M.iPs (s : M.St) : List Part × M.St := M.iter M.iP1 (M.mx 5 s).toNat (M.ms 5 s)
def M.iCs (s : M.St) : List Channel × M.St := M.iter M.iC1 (M.mx 8 s).toNat (M.ms 8 s)
def M.iSs (s : M.St) : List Slot × M.St := M.iter M.iS1 (M.mx 12 s).toNat (M.ms 12 s)
def M.iAll (s : M.St) : Setup := ⟨(M.iPs s).1, (M.iCs (M.iPs s).2).1, (M.iSs (M.iCs (M.iPs s).2).2).1⟩
def M.iEnd (s : M.St) : M.St := (M.iSs (M.iCs (M.iPs s).2).2).2
def M.sW1 (s : M.St) : Window × M.St := (⟨M.nx s, M.nx (M.ns s), M.nx (M.ns (M.ns s)) == 1⟩, ((M.ns (M.ns (M.ns s))).1, (M.ns (M.ns (M.ns s))).2 || !M.inn (M.nx (M.ns (M.ns s))) 0 1))
def M.sP1 (s : M.St) : Part × M.St :=
  (⟨(M.iterB M.sW1 (M.mx 12 (M.ns s)).toNat (M.ms 12 (M.ns s))).1, M.nx s⟩, (M.iterB M.sW1 (M.mx 12 (M.ns s)).toNat (M.ms 12 (M.ns s))).2)
def M.sPs (s : M.St) : List Part × M.St := M.iterB M.sP1 (M.mx 5 s).toNat (M.ms 5 s)
def M.sCs (s : M.St) : List Channel × M.St := M.iterB M.iC1 (M.mx 8 s).toNat (M.ms 8 s)
def M.sSs (s : M.St) : List Slot × M.St := M.iterB M.iS1 (M.mx 12 s).toNat (M.ms 12 s)
def M.sAll (s : M.St) : Setup := ⟨(M.sPs s).1, (M.sCs (M.sPs s).2).1, (M.sSs (M.sCs (M.sPs s).2).2).1⟩
def M.sEnd (s : M.St) : M.St := (M.sSs (M.sCs (M.sPs s).2).2).2
theorem M.many_bd (xs : List Int) {m : Int} (hm : 0 ≤ m) : 0 ≤ M.many xs m ∧ M.many xs m ≤ m := by
  unfold M.many
  split
  · rename_i h; exact M.inn_iff.1 h
  · exact ⟨Int.le_refl _, hm⟩
theorem M.hd_rng {W w : World} {v : Value} {xs : List Int} (h : Rs w v xs) : rng (M.hd xs) := by
  cases xs with
  | nil => exact rng_zero
  | cons x xs =>
    obtain ⟨a, c, rfl, _⟩ := h.form
    obtain ⟨b, o, y, _, _, hx, _, hr⟩ := h.atInt 0 (by simp)
    have := hx.out
    simp at this
    subst this; exact hr
end Sk
namespace Sk
open Go Go.Proofs Go.RowKit
set_option linter.unusedVariables false
set_option linter.unusedSimpArgs false
theorem Fz.of {w w' : World} {k : Nat} (h : Fz w k) (hk : w'.heap[k]? = w.heap[k]?) : Fz w' k := by
  obtain ⟨cs, T, h⟩ := h
  exact ⟨cs, T, by unfold Bk at *; rw [hk]; exact h⟩
theorem Own.of {L : Nat} {w w' : World} {F : List Nat} (h : Own L w F) (hk : ∀ k ∈ F, w'.heap[k]? = w.heap[k]?) : Own L w' F := ⟨h.1, fun k hm => ⟨(h.2 k hm).1, (h.2 k hm).2.of (hk k hm)⟩⟩
theorem Bk.of {w w' : World} {b : Nat} {cs : List Value} {T : TypeId} (h : Bk w b cs T) (hk : w'.heap[b]? = w.heap[b]?) : Bk w' b cs T := by unfold Bk at *; rw [hk]; exact h
/-- A list of one's own that one may append to, all of it below M. -/
def Oob {α : Type} [GT α] (e : TypeId) (L M : Nat) (w : World) (v : Value) (xs : List α) : Prop := ∃ F, Oa e L w v xs F ∧ Own L w F ∧ (∀ k ∈ F, k < M) ∧ ∀ k, v.ownBlock = some k → k < M
theorem Oo.ob {α : Type} [GT α] {e : TypeId} {L : Nat} {w : World} {v : Value} {xs : List α} (h : Oo e L w v xs) : Oob e L w.heap.size w v xs := by
  have hl := h.lt
  obtain ⟨F, h1, h2⟩ := h
  exact ⟨F, h1, h2, fun k hk => h2.lt hk, hl⟩
theorem Oob.oo {α : Type} [GT α] {e : TypeId} {L M : Nat} {w : World} {v : Value} {xs : List α} (h : Oob e L M w v xs) : Oo e L w v xs := by
  obtain ⟨F, h1, h2, _⟩ := h
  exact ⟨F, h1, h2⟩
theorem Oob.of {α : Type} [GT α] {e : TypeId} {L M : Nat} {w w' : World} {v : Value} {xs : List α} (h : Oob e L M w v xs) (hk : ∀ k, L ≤ k → k < M → w'.heap[k]? = w.heap[k]?) : Oob e L M w' v xs := by
  obtain ⟨F, h1, h2, h3, h4⟩ := h
  have hF : ∀ k ∈ F, w'.heap[k]? = w.heap[k]? := fun k hm => hk k (h2.2 k hm).1 (h3 k hm)
  exact ⟨F, h1.keep (fun k hm => hk k (h1.own k hm) (h4 k hm)) hF, h2.of hF, h3, h4⟩
theorem Oob.own {α : Type} [GT α] {e : TypeId} {L M : Nat} {w : World} {v : Value} {xs : List α} (h : Oob e L M w v xs) : ∀ k, v.ownBlock = some k → L ≤ k ∧ k < M := by
  obtain ⟨F, h1, h2, h3, h4⟩ := h
  exact fun k hk => ⟨h1.own k hk, h4 k hk⟩
theorem Osb.of {α : Type} [GT α] {L M : Nat} {w w' : World} {v : Value} {xs : List α} (h : Osb L M w v xs) (hk : ∀ k, L ≤ k → k < M → w'.heap[k]? = w.heap[k]?) : Osb L M w' v xs := by
  obtain ⟨F, h1, h2, h3⟩ := h
  have hF : ∀ k ∈ F, w'.heap[k]? = w.heap[k]? := fun k hm => hk k (h2.2 k hm).1 (h3 k hm)
  exact ⟨F, h1.keep hF, h2.of hF, h3⟩
/-- APPEND to such a list of new elements whose blocks are not below M. -/
theorem wp_appB {α : Type} [GT α] {P : Program} {w : World} {o : Oper} {a : Act} {K : Act → World → Prop} {Q : Exit → Act → World → Prop} (s x : Operand) (t : TypeId)
    (ho : o.op = .call { callee := .builtin .append, args := #[s, x], argTypes := #[t, t] }) (e : TypeId) (ht : P.underlying t = some (.slice e)) (hel : El P e α)
    {L M : Nat} {v : Value} {xs ys : List α} {Fy : List Nat} (hs : a.eval s = v) (hO : Oob e L M w v xs) (hL : L ≤ M) (hM : M ≤ w.heap.size) {ab ao m c : Nat} (hx : a.eval x = .slice (some ⟨ab, ao, none⟩) m c) (hm : ys.length = m) (hy : Row w ab ao ys Fy)
    (hm0 : 0 < m) (hown : Own M w Fy) (hlen : xs.length + m ≤ 4294967296)
    (h : ∀ v' w', Oo e L w' v' (xs ++ ys) → Mw v.ownBlock.toList w w' → (v'.ownBlock = v.ownBlock ∨ v'.ownBlock = some w.heap.size) → K (a.put o.dst v') w') : o.wp P a w K Q := by
  obtain ⟨F, hA, hF, hFM, hvM⟩ := hO
  have hd : ∀ k ∈ Fy, v.ownBlock ≠ some k := fun k hk e => by have := (hown.2 k hk).1; have := hvM k e; omega
  refine wp_appX s x t ho e ht hel hs hA hx hm hy hm0 hd hlen (Nat.le_trans hL hM) fun v' w' h1 h2 h3 => h v' w' ⟨_, h1, ?_⟩ (Mw.ofGrown h2 (fun k hk => by simp [hk])) h3
  have hnF : ∀ k ∈ F, v.ownBlock ≠ some k := fun k hk e => by
      rcases hA with ⟨rfl, _, _⟩ | ⟨g, cap, cur, rfl, _, _, _, _, _, _, hg⟩
      · cases e
      · cases e; exact hg hk
  refine Own.grown (row := v.ownBlock) (w := w) (Own.app hF hown (fun b hb => hFM b hb) hL) h2 fun k hk => ?_
  rcases List.mem_append.1 hk with hk | hk
  · exact hnF k hk
  · exact hd k hk
theorem wpl_appB {α : Type} [GT α] {P : Program} {w : World} {ops : Array Oper} {rest : List Oper} {o : Oper} {a : Act} {Q : Exit → Act → World → Prop} (hgd : o.guard = none) (s x : Operand) (t : TypeId)
    (ho : o.op = .call { callee := .builtin .append, args := #[s, x], argTypes := #[t, t] }) (e : TypeId) (ht : P.underlying t = some (.slice e)) (hel : El P e α)
    {L M : Nat} {v : Value} {xs ys : List α} {Fy : List Nat} (hs : a.eval s = v) (hO : Oob e L M w v xs) (hL : L ≤ M) (hM : M ≤ w.heap.size) {ab ao m c : Nat} (hx : a.eval x = .slice (some ⟨ab, ao, none⟩) m c) (hm : ys.length = m) (hy : Row w ab ao ys Fy)
    (hm0 : 0 < m) (hown : Own M w Fy) (hlen : xs.length + m ≤ 4294967296)
    (h : ∀ v' w', Oo e L w' v' (xs ++ ys) → Mw v.ownBlock.toList w w' → wpList P ops Q rest (a.put o.dst v') w') : wpList P ops Q (o :: rest) a w :=
  wpList_plain hgd fun _ hK => wp_appB s x t ho e ht hel hs hO hL hM hx hm hy hm0 hown hlen fun v' w' h1 h2 _ => hK _ _ (h v' w' h1 h2)
theorem Oo.mono0 {α : Type} [GT α] {e : TypeId} {L L' : Nat} {w : World} {v : Value} {xs : List α} (h : Oo e L w v xs) (hl : L' ≤ L) : Oo e L' w v xs := h.mono hl
end Sk

