/- Contracts of functions of the given program, and lemmas for them: each theorem states the condition under which it holds. -/
import Derived.Test.YtobfbjgflnhjpaaGreatChecked
import Derived.Lib.SliceRun
import Derived.Deep.CutBlock
import Derived.Deep.CutRange
import Derived.Test.YtobfbjgflnhjpaaGreatCopy
import Derived.Test.YtobfbjgflnhjpaaGreatAcc
import Derived.Test.YtobfbjgflnhjpaaGreatBuild
import Derived.Test.YtobfbjgflnhjpaaGreatChan
import Derived.Test.YtobfbjgflnhjpaaGreatTypes
import Derived.Test.YtobfbjgflnhjpaaGreatQt
namespace Sk
open Go Go.Proofs Go.RowKit
set_option maxHeartbeats 4000000
set_option maxRecDepth 100000
set_option linter.unusedVariables false
set_option linter.unusedSimpArgs false
theorem chg_setCells (b : Nat) : ∀ (vs : List Value) (o : Nat) (w : World), Chg b o vs.length [] w (w.setCells b o vs)
  | [], o, w => Chg.refl _ _ _ _ _
  | v :: vs, o, w => by
    have h1 : Chg b o (vs.length + 1) [] w (w.setCell ⟨b, o, none⟩ v) := (Chg.refl _ _ _ _ _).set ⟨Nat.le_refl _, by omega⟩ _
    have h2 := chg_setCells b vs (o + 1) (w.setCell ⟨b, o, none⟩ v)
    exact h1.trF (h2.wide (by omega) (by omega) (fun _ h => h)) (fun _ h => by cases h)
theorem run_clear {α : Type} [GT α] {P : Program} (w : World) (t e : TypeId) (ht : P.underlying t = some (.slice e)) (hel : El P e α) (b o n c : Nat)
    (hc : ∀ j, j < n * GT.sz α → ∃ u, w.cell? ⟨b, o + j, none⟩ = some u) (hf : ∀ j, w.frozen? ⟨b, j, none⟩ = false) :
    ∃ w', (∀ ty, (Builtin.clear_ #[t] ty #[.slice (some ⟨b, o, none⟩) n c]).run P w = .ok (.tuple #[]) w') ∧ Chg b o (n * GT.sz α) [] w w' := by
  by_cases hn : n = 0
  · subst hn
    exact ⟨w, fun ty => by simp [Builtin.clear_, run_underlying ht], by rw [Nat.zero_mul]; exact Chg.refl _ _ _ _ _⟩
  · obtain ⟨i, z, bytes, hi, hz, hsz, hby, hzc, hb⟩ := hel
    have hzl : z.cells.size = GT.sz α := by rw [← GT.len (GT.zero (α := α) w), ← hzc]; simp
    have hlen : (Builtin.zeroCells z.cells n).toList.length = n * GT.sz α := by simp [Builtin.zeroCells, hzl]
    have h1 : ∀ v ∈ (Builtin.zeroCells z.cells n).toList, v.oneCell' = true := by
      intro v hv
      simp only [Builtin.zeroCells, Array.toList_map, List.mem_map, Array.mem_toList_iff, Array.mem_range] at hv
      obtain ⟨k, hk, rfl⟩ := hv
      have hp : 0 < z.cells.size := by rw [hzl]; exact GT.pos
      have hm := Nat.mod_lt k hp
      rw [getElem!_pos z.cells _ hm]
      exact GT.one (GT.zero (α := α) w) _ (by rw [← hzc]; simp)
    have hst := run_storeCells_cells (P := P) b o (Builtin.zeroCells z.cells n).toList 0 w (fun j hj => by rw [hlen] at hj; obtain ⟨u, hu⟩ := hc j hj; simp [hu]) (fun j hj => hf _) h1
    simp only [Nat.add_zero] at hst
    obtain ⟨m, rfl⟩ : ∃ m, n = m + 1 := ⟨n - 1, by omega⟩
    have hv : (zeroValue e).run P w = .ok z w := by simp [zeroValue, typeInfo, hi, hz]
    refine ⟨_, fun ty => by simp [Builtin.clear_, run_underlying ht, hv, hst]; rfl, ?_⟩
    have := chg_setCells b (Builtin.zeroCells z.cells (m + 1)).toList o w
    rwa [hlen] at this
theorem Chg.gb {b o n : Nat} {a c : World} (h : Chg b o n [] a c) : a.grownBy c (some b) := ⟨h.1.os, h.1.tape, h.1.output, h.sz, fun k hk hne => h.keep hk (fun e => hne (by rw [e])) (by simp)⟩
end Sk

namespace Sk
open Go Go.Proofs Go.RowKit
set_option linter.unusedVariables false
set_option linter.unusedSimpArgs false
theorem M.setv_tot {s : Setup} (h : M.setv s = true) : GT.tot s ≤ 1000 := by
  have h5 := M.setv_parts h
  have h8 := M.setv_chans h
  have h12 := M.setv_slots h
  have hp := tot_list 30 5 s.Parts h5 (fun x hx => by
    obtain ⟨k, hk⟩ := List.getElem?_of_mem hx
    have hw := M.setv_win h hk
    have := tot_list 0 12 x.Windows hw (fun y _ => Nat.le_refl _)
    show GT.tot x.Windows + GT.tot x.Cells ≤ _
    have h0 : GT.tot x.Cells = 0 := rfl
    omega)
  have hc := tot_list 0 8 s.Channels h8 (fun y _ => Nat.le_refl _)
  have hs := tot_list 0 12 s.Slots h12 (fun y _ => Nat.le_refl _)
  show GT.tot s.Parts + GT.tot s.Channels + GT.tot s.Slots ≤ _
  omega
end Sk

namespace Sk
open Go Go.Proofs Go.RowKit
set_option maxHeartbeats 4000000
set_option maxRecDepth 100000
set_option linter.unusedVariables false
set_option linter.unusedSimpArgs false
theorem Rs.tailI {W : World} {b o n c : Nat} {x : Int} {xs : List Int} (h : Rs W (.slice (some ⟨b, o, none⟩) n c) (x :: xs)) : Rs W (.slice (some ⟨b, o + 1, none⟩) (n - 1) (c - 1)) xs := by
  obtain ⟨F, a, c', he, hl, hc, ⟨h1, _⟩ | ⟨_, b', o', F', h1, rfl, hr⟩⟩ := h
  · cases h1
  · cases he; cases h1
    obtain ⟨cs, F1, F2, _, _, rfl, hr⟩ := hr
    simp only [List.length_cons] at hl
    by_cases hx : xs = []
    · subst hx; exact ⟨[], some ⟨b, o + 1, none⟩, c - 1, by simp, by simp, by unfold maxLen at *; omega, .inl ⟨rfl, rfl⟩⟩
    · exact ⟨b :: F2, some ⟨b, o + 1, none⟩, c - 1, by simp, by omega, by unfold maxLen at *; omega, .inr ⟨hx, b, o + 1, F2, rfl, rfl, by simpa [GT.sz] using hr⟩⟩
def M.hd : List Int → Int
  | [] => 0
  | x :: _ => x
theorem Rs.nilI {W : World} {a : Option Addr} {c : Nat} (hc : c ≤ 9223372036854775807) : Rs (α := Int) W (.slice a 0 c) [] := ⟨[], a, c, rfl, Nat.zero_le _, hc, .inl ⟨rfl, rfl⟩⟩
theorem Mo.bk {F : List Nat} {a b : World} {p : Nat} {cs : List Value} {T : TypeId} (h : Mo F a b) (k : Bk a p cs T) (hp : p ∉ F) : Bk b p cs T := (Mx.ofMo h).bk k hp
theorem Mo.cell {F : List Nat} {a b : World} (h : Mo F a b) {p o : Nat} (hp : p ∉ F) : b.cell? ⟨p, o, none⟩ = a.cell? ⟨p, o, none⟩ := World.cell?_of_block (h.2.2.1 p hp)
theorem Oo.mo {α : Type} [GT α] {e : TypeId} {L : Nat} {w w' : World} {v : Value} {xs : List α} {F : List Nat} (h : Oo e L w v xs) (k : Mo F w w') (hF : ∀ x ∈ F, x < L) : Oo e L w' v xs := by
  obtain ⟨G, h1, h2⟩ := h
  exact ⟨G, h1.keep (fun x hx => k.2.2.1 x (fun hm => by have := h1.own x hx; have := hF x hm; omega)) (fun x hx => k.2.2.1 x (fun hm => by have := (h2.2 x hx).1; have := hF x hm; omega)), k.own h2⟩
theorem Mo.drewN {F : List Nat} {a b : World} (h : Mo F a b) (n : Nat) : Mo F a (b.drewN n) := by
  obtain ⟨h1, h2, h3, h4⟩ := h
  exact ⟨h1, ⟨h2.os, h2.tape, h2.output, Nat.le_refl _, fun b hb => by cases hb⟩, h3, fun k hk => (h4 k hk).ext ((Ext.refl _).drewN n)⟩
theorem Mo.lt {F : List Nat} {a b : World} (h : Mo F a b) : b.heap.size = a.heap.size := h.1
def M.many (xs : List Int) (m : Int) : Int := if M.inn (M.hd xs) 0 m then M.hd xs else 0
def M.manyB (xs : List Int) (bad : Bool) (m : Int) : Bool := (bad || xs.isEmpty) || !M.inn (M.hd xs) 0 m
end Sk

namespace Sk
open Go Go.Proofs Go.RowKit
set_option linter.unusedVariables false
set_option linter.unusedSimpArgs false
abbrev M.St := List Int × Bool
def M.nx (s : M.St) : Int := M.hd s.1
def M.ns (s : M.St) : M.St := (s.1.tail, s.2 || s.1.isEmpty)
def M.mx (m : Int) (s : M.St) : Int := M.many s.1 m
def M.ms (m : Int) (s : M.St) : M.St := (s.1.tail, M.manyB s.1 s.2 m)
/-- One less, as the machine reckons. -/
def M.dec (x : Int) : Int := if x = -9223372036854775808 then 9223372036854775807 else x - 1
def M.iter {α : Type} (f : M.St → α × M.St) : Nat → M.St → List α × M.St
  | 0, s => ([], s)
  | n + 1, s => ((M.iter f n s).1 ++ [(f (M.iter f n s).2).1], (f (M.iter f n s).2).2)
/-- The same, but nothing is read any more once reading has failed. -/
def M.iterB {α : Type} (f : M.St → α × M.St) : Nat → M.St → List α × M.St
  | 0, s => ([], s)
  | n + 1, s => if (M.iterB f n s).2.2 then M.iterB f n s else ((M.iterB f n s).1 ++ [(f (M.iterB f n s).2).1], (f (M.iterB f n s).2).2)
theorem M.iter_len {α : Type} (f : M.St → α × M.St) (n : Nat) (s : M.St) : (M.iter f n s).1.length = n := by
  induction n with
  | zero => rfl
  | succ n ih => simp only [M.iter, List.length_append, ih, List.length_cons, List.length_nil]
theorem M.iterB_len {α : Type} (f : M.St → α × M.St) (n : Nat) (s : M.St) : (M.iterB f n s).1.length ≤ n := by
  induction n with
  | zero => exact Nat.le_refl _
  | succ n ih =>
    simp only [M.iterB]
    split
    · omega
    · simp only [List.length_append, List.length_cons, List.length_nil]; omega
theorem M.iterB_bad {α : Type} (f : M.St → α × M.St) (s : M.St) : ∀ {n : Nat} (k : Nat), (M.iterB f n s).2.2 = true → M.iterB f (n + k) s = M.iterB f n s := by
  intro n k h
  induction k with
  | zero => rfl
  | succ k ih => rw [← Nat.add_assoc, M.iterB, ih, if_pos h]
def M.iW1 (s : M.St) : Window × M.St := (⟨M.nx s, M.nx (M.ns s), M.nx (M.ns (M.ns s)) == 1⟩, M.ns (M.ns (M.ns s)))
def M.iP1 (s : M.St) : Part × M.St :=
  (⟨(M.iter M.iW1 (M.mx 12 (M.ns s)).toNat (M.ms 12 (M.ns s))).1, M.nx s⟩, (M.iter M.iW1 (M.mx 12 (M.ns s)).toNat (M.ms 12 (M.ns s))).2)
def M.iC1 (s : M.St) : Channel × M.St := (⟨M.nx s, M.nx (M.ns s), M.nx (M.ns (M.ns s)), M.nx (M.ns (M.ns (M.ns s)))⟩, M.ns (M.ns (M.ns (M.ns s))))
def M.iS1 (s : M.St) : Slot × M.St := (⟨M.dec (M.nx s), M.nx (M.ns s)⟩, M.ns (M.ns s))
def M.iPs (s : M.St) : List Part × M.St := M.iter M.iP1 (M.mx 5 s).toNat (M.ms 5 s)
def M.iCs (s : M.St) : List Channel × M.St := M.iter M.iC1 (M.mx 8 s).toNat (M.ms 8 s)
def M.iSs (s : M.St) : List Slot × M.St := M.iter M.iS1 (M.mx 12 s).toNat (M.ms 12 s)
def M.iAll (s : M.St) : Setup := ⟨(M.iPs s).1, (M.iCs (M.iPs s).2).1, (M.iSs (M.iCs (M.iPs s).2).2).1⟩
def M.iEnd (s : M.St) : M.St := (M.iSs (M.iCs (M.iPs s).2).2).2
def M.sW1 (s : M.St) : Window × M.St := (⟨M.nx s, M.nx (M.ns s), M.nx (M.ns (M.ns s)) == 1⟩, ((M.ns (M.ns (M.ns s))).1, (M.ns (M.ns (M.ns s))).2 || !M.inn (M.nx (M.ns (M.ns s))) 0 1))
def M.sP1 (s : M.St) : Part × M.St :=
  (⟨(M.iterB M.sW1 (M.mx 12 (M.ns s)).toNat (M.ms 12 (M.ns s))).1, M.nx s⟩, (M.iterB M.sW1 (M.mx 12 (M.ns s)).toNat (M.ms 12 (M.ns s))).2)
def M.sPs (s : M.St) : List Part × M.St := M.iterB M.sP1 (M.mx 5 s).toNat (M.ms 5 s)
def M.sCs (s : M.St) : List Channel × M.St := M.iterB M.iC1 (M.mx 8 s).toNat (M.ms 8 s)
def M.sSs (s : M.St) : List Slot × M.St := M.iterB M.iS1 (M.mx 12 s).toNat (M.ms 12 s)
def M.sAll (s : M.St) : Setup := ⟨(M.sPs s).1, (M.sCs (M.sPs s).2).1, (M.sSs (M.sCs (M.sPs s).2).2).1⟩
def M.sEnd (s : M.St) : M.St := (M.sSs (M.sCs (M.sPs s).2).2).2
theorem M.many_bd (xs : List Int) {m : Int} (hm : 0 ≤ m) : 0 ≤ M.many xs m ∧ M.many xs m ≤ m := by
  unfold M.many
  split
  · rename_i h; exact M.inn_iff.1 h
  · exact ⟨Int.le_refl _, hm⟩
theorem M.hd_rng {W w : World} {v : Value} {xs : List Int} (h : Rs w v xs) : rng (M.hd xs) := by
  cases xs with
  | nil => exact rng_zero
  | cons x xs =>
    obtain ⟨a, c, rfl, _⟩ := h.form
    obtain ⟨b, o, y, _, _, hx, _, hr⟩ := h.atInt 0 (by simp)
    have := hx.out
    simp at this
    subst this; exact hr
end Sk
namespace Sk
open Go Go.Proofs Go.RowKit
set_option linter.unusedVariables false
set_option linter.unusedSimpArgs false
theorem Fz.of {w w' : World} {k : Nat} (h : Fz w k) (hk : w'.heap[k]? = w.heap[k]?) : Fz w' k := by
  obtain ⟨cs, T, h⟩ := h
  exact ⟨cs, T, by unfold Bk at *; rw [hk]; exact h⟩
theorem Own.of {L : Nat} {w w' : World} {F : List Nat} (h : Own L w F) (hk : ∀ k ∈ F, w'.heap[k]? = w.heap[k]?) : Own L w' F := ⟨h.1, fun k hm => ⟨(h.2 k hm).1, (h.2 k hm).2.of (hk k hm)⟩⟩
theorem Bk.of {w w' : World} {b : Nat} {cs : List Value} {T : TypeId} (h : Bk w b cs T) (hk : w'.heap[b]? = w.heap[b]?) : Bk w' b cs T := by unfold Bk at *; rw [hk]; exact h
/-- A list of one's own that one may append to, all of it below M. -/
def Oob {α : Type} [GT α] (e : TypeId) (L M : Nat) (w : World) (v : Value) (xs : List α) : Prop := ∃ F, Oa e L w v xs F ∧ Own L w F ∧ (∀ k ∈ F, k < M) ∧ ∀ k, v.ownBlock = some k → k < M
theorem Oo.ob {α : Type} [GT α] {e : TypeId} {L : Nat} {w : World} {v : Value} {xs : List α} (h : Oo e L w v xs) : Oob e L w.heap.size w v xs := by
  have hl := h.lt
  obtain ⟨F, h1, h2⟩ := h
  exact ⟨F, h1, h2, fun k hk => h2.lt hk, hl⟩
theorem Oob.oo {α : Type} [GT α] {e : TypeId} {L M : Nat} {w : World} {v : Value} {xs : List α} (h : Oob e L M w v xs) : Oo e L w v xs := by
  obtain ⟨F, h1, h2, _⟩ := h
  exact ⟨F, h1, h2⟩
theorem Oob.of {α : Type} [GT α] {e : TypeId} {L M : Nat} {w w' : World} {v : Value} {xs : List α} (h : Oob e L M w v xs) (hk : ∀ k, L ≤ k → k < M → w'.heap[k]? = w.heap[k]?) : Oob e L M w' v xs := by
  obtain ⟨F, h1, h2, h3, h4⟩ := h
  have hF : ∀ k ∈ F, w'.heap[k]? = w.heap[k]? := fun k hm => hk k (h2.2 k hm).1 (h3 k hm)
  exact ⟨F, h1.keep (fun k hm => hk k (h1.own k hm) (h4 k hm)) hF, h2.of hF, h3, h4⟩
theorem Oob.own {α : Type} [GT α] {e : TypeId} {L M : Nat} {w : World} {v : Value} {xs : List α} (h : Oob e L M w v xs) : ∀ k, v.ownBlock = some k → L ≤ k ∧ k < M := by
  obtain ⟨F, h1, h2, h3, h4⟩ := h
  exact fun k hk => ⟨h1.own k hk, h4 k hk⟩
theorem Osb.of {α : Type} [GT α] {L M : Nat} {w w' : World} {v : Value} {xs : List α} (h : Osb L M w v xs) (hk : ∀ k, L ≤ k → k < M → w'.heap[k]? = w.heap[k]?) : Osb L M w' v xs := by
  obtain ⟨F, h1, h2, h3⟩ := h
  have hF : ∀ k ∈ F, w'.heap[k]? = w.heap[k]? := fun k hm => hk k (h2.2 k hm).1 (h3 k hm)
  exact ⟨F, h1.keep hF, h2.of hF, h3⟩
/-- APPEND to such a list of new elements whose blocks are not below M. -/
theorem wp_appB {α : Type} [GT α] {P : Program} {w : World} {o : Oper} {a : Act} {K : Act → World → Prop} {Q : Exit → Act → World → Prop} (s x : Operand) (t : TypeId)
    (ho : o.op = .call { callee := .builtin .append, args := #[s, x], argTypes := #[t, t] }) (e : TypeId) (ht : P.underlying t = some (.slice e)) (hel : El P e α)
    {L M : Nat} {v : Value} {xs ys : List α} {Fy : List Nat} (hs : a.eval s = v) (hO : Oob e L M w v xs) (hL : L ≤ M) (hM : M ≤ w.heap.size) {ab ao m c : Nat} (hx : a.eval x = .slice (some ⟨ab, ao, none⟩) m c) (hm : ys.length = m) (hy : Row w ab ao ys Fy)
    (hm0 : 0 < m) (hown : Own M w Fy) (hlen : xs.length + m ≤ 4294967296)
    (h : ∀ v' w', Oo e L w' v' (xs ++ ys) → Mw v.ownBlock.toList w w' → (v'.ownBlock = v.ownBlock ∨ v'.ownBlock = some w.heap.size) → K (a.put o.dst v') w') : o.wp P a w K Q := by
  obtain ⟨F, hA, hF, hFM, hvM⟩ := hO
  have hd : ∀ k ∈ Fy, v.ownBlock ≠ some k := fun k hk e => by have := (hown.2 k hk).1; have := hvM k e; omega
  refine wp_appX s x t ho e ht hel hs hA hx hm hy hm0 hd hlen (Nat.le_trans hL hM) fun v' w' h1 h2 h3 => h v' w' ⟨_, h1, ?_⟩ (Mw.ofGrown h2 (fun k hk => by simp [hk])) h3
  have hnF : ∀ k ∈ F, v.ownBlock ≠ some k := fun k hk e => by
      rcases hA with ⟨rfl, _, _⟩ | ⟨g, cap, cur, rfl, _, _, _, _, _, _, hg⟩
      · cases e
      · cases e; exact hg hk
  refine Own.grown (row := v.ownBlock) (w := w) (Own.app hF hown (fun b hb => hFM b hb) hL) h2 fun k hk => ?_
  rcases List.mem_append.1 hk with hk | hk
  · exact hnF k hk
  · exact hd k hk
theorem wpl_appB {α : Type} [GT α] {P : Program} {w : World} {ops : Array Oper} {rest : List Oper} {o : Oper} {a : Act} {Q : Exit → Act → World → Prop} (hgd : o.guard = none) (s x : Operand) (t : TypeId)
    (ho : o.op = .call { callee := .builtin .append, args := #[s, x], argTypes := #[t, t] }) (e : TypeId) (ht : P.underlying t = some (.slice e)) (hel : El P e α)
    {L M : Nat} {v : Value} {xs ys : List α} {Fy : List Nat} (hs : a.eval s = v) (hO : Oob e L M w v xs) (hL : L ≤ M) (hM : M ≤ w.heap.size) {ab ao m c : Nat} (hx : a.eval x = .slice (some ⟨ab, ao, none⟩) m c) (hm : ys.length = m) (hy : Row w ab ao ys Fy)
    (hm0 : 0 < m) (hown : Own M w Fy) (hlen : xs.length + m ≤ 4294967296)
    (h : ∀ v' w', Oo e L w' v' (xs ++ ys) → Mw v.ownBlock.toList w w' → wpList P ops Q rest (a.put o.dst v') w') : wpList P ops Q (o :: rest) a w :=
  wpList_plain hgd fun _ hK => wp_appB s x t ho e ht hel hs hO hL hM hx hm hy hm0 hown hlen fun v' w' h1 h2 _ => hK _ _ (h v' w' h1 h2)
theorem Oo.mono0 {α : Type} [GT α] {e : TypeId} {L L' : Nat} {w : World} {v : Value} {xs : List α} (h : Oo e L w v xs) (hl : L' ≤ L) : Oo e L' w v xs := h.mono hl
end Sk

namespace Sk
open Go Go.Proofs Go.RowKit
set_option maxHeartbeats 4000000
set_option maxRecDepth 100000
set_option linter.unusedVariables false
set_option linter.unusedSimpArgs false
def RngS (s : M.St) : Prop := ∀ x ∈ s.1, rng x
theorem RngS.nx {s : M.St} (h : RngS s) : rng (M.nx s) := by
  obtain ⟨xs, b⟩ := s
  cases xs with
  | nil => exact rng_zero
  | cons x xs => exact h x (List.mem_cons_self ..)
theorem RngS.ns {s : M.St} (h : RngS s) : RngS (M.ns s) := fun x hx => h x (List.mem_of_mem_tail hx)
theorem M.dec_rng {x : Int} (h : rng x) : rng (M.dec x) := by
  unfold M.dec rng at *
  split <;> omega
theorem Rs.rngs {w : World} {v : Value} {xs : List Int} (h : Rs w v xs) : ∀ x ∈ xs, rng x := fun x hx => by
  obtain ⟨k, hk⟩ := List.getElem?_of_mem hx
  obtain ⟨a, c, rfl, _⟩ := h.form
  obtain ⟨b, o, y, _, _, hy, _, hr⟩ := h.atInt k (List.getElem?_eq_some_iff.1 hk).1
  have := hy.out
  rw [hk] at this; cases this; exact hr
end Sk

namespace Sk
open Go Go.Proofs Go.RowKit
set_option maxHeartbeats 4000000
set_option maxRecDepth 100000
set_option linter.unusedVariables false
set_option linter.unusedSimpArgs false
/-- A struct's value whose blocks lie from L on. -/
def Rvb {α : Type} [GT α] (L : Nat) (w : World) (v : Value) (x : α) : Prop := ∃ cs F, v = .agg cs.toArray ∧ GT.enc w cs x F ∧ ∀ k ∈ F, L ≤ k
theorem Rvb.rv {α : Type} [GT α] {L : Nat} {w : World} {v : Value} {x : α} (h : Rvb L w v x) : Rv w v x := by
  obtain ⟨cs, F, h1, h2, _⟩ := h
  exact ⟨cs, F, h1, h2⟩
theorem rvb_zero {α : Type} [GT α] {L : Nat} {w : World} : Rvb L w (.agg (GT.zc α).toArray) (default : α) := ⟨_, [], rfl, GT.zero w, fun k hk => by cases hk⟩
end Sk

namespace Sk
open Go Go.Proofs Go.RowKit
set_option maxHeartbeats 1600000
set_option maxRecDepth 100000
set_option linter.unusedVariables false
set_option linter.unusedSimpArgs false
/-- A byte. -/
structure By where
  v : Int
instance instGTBy : GT By where
  default := ⟨0⟩
  sz := 1
  enc _ cs x F := cs = [.int .u8 x.v] ∧ 0 ≤ x.v ∧ x.v ≤ 255 ∧ F = []
  pos := Nat.one_pos
  len := by rintro w cs x F ⟨rfl, _⟩; rfl
  one := by rintro w cs x F ⟨rfl, _, _, rfl⟩ u hu; simp at hu; subst hu; rfl
  inh := by rintro w cs x F ⟨rfl, _, _, rfl⟩ b hb; cases hb
  keep := by rintro w w' cs x F ⟨rfl, h, h2, rfl⟩ _; exact ⟨rfl, h, h2, rfl⟩
  tot _ := 0
  ct _ := 1
  mkE x _ := x
  mkE_ct _ _ := rfl
  mkE_idem _ _ := rfl
  zc := [.int .u8 0]
  zero _ := ⟨rfl, by decide, by decide, rfl⟩
theorem Rs.atBy {w : World} {a : Option Addr} {n c : Nat} {xs : List By} (h : Rs w (.slice a n c) xs) (k : Nat) (hk : k < xs.length) :
    ∃ b o x, a = some ⟨b, o, none⟩ ∧ b < w.heap.size ∧ w.cell? ⟨b, o + k, none⟩ = some (.int .u8 x) ∧ 0 ≤ x ∧ x ≤ 255 := by
  obtain ⟨b, o, cs, F, x, rfl, hb, hx, ⟨rfl, h1, h2, _⟩, ha⟩ := h.at k hk
  exact ⟨b, o, x.v, rfl, hb, by simpa [GT.sz] using ha 0 _ rfl, h1, h2⟩
/-- What one reads through blocks from L on. -/
def Rsb {α : Type} [GT α] (L : Nat) (w : World) (v : Value) (xs : List α) : Prop := ∃ F, Sl w v xs F ∧ ∀ k ∈ F, L ≤ k
theorem Rsb.rs {α : Type} [GT α] {L : Nat} {w : World} {v : Value} {xs : List α} (h : Rsb L w v xs) : Rs w v xs := by obtain ⟨F, h, _⟩ := h; exact ⟨F, h⟩
theorem Rsb.mw {α : Type} [GT α] {L : Nat} {w w' : World} {v : Value} {xs : List α} {F : List Nat} (h : Rsb L w v xs) (k : Mw F w w') (hF : ∀ x ∈ F, x < L) : Rsb L w' v xs := by
  obtain ⟨G, h1, h2⟩ := h
  exact ⟨G, k.sl h1 (fun y hy hf => by have := h2 y hy; have := hF y hf; omega), h2⟩
theorem Rsb.ext {α : Type} [GT α] {L : Nat} {w w' : World} {v : Value} {xs : List α} (h : Rsb L w v xs) (k : Ext w w') : Rsb L w' v xs := by
  obtain ⟨G, h1, h2⟩ := h; exact ⟨G, h1.ext k, h2⟩
theorem Rsb.mono {α : Type} [GT α] {L L' : Nat} {w : World} {v : Value} {xs : List α} (h : Rsb L w v xs) (k : L' ≤ L) : Rsb L' w v xs := by
  obtain ⟨G, h1, h2⟩ := h; exact ⟨G, h1, fun x hx => Nat.le_trans k (h2 x hx)⟩
theorem Oo.rsb {α : Type} [GT α] {e : TypeId} {L : Nat} {w : World} {v : Value} {xs : List α} (h : Oo e L w v xs) : Rsb L w v xs := by
  obtain ⟨F, h1, h2⟩ := h.os; exact ⟨F, h1, fun k hk => (h2.2 k hk).1⟩
/-- What a pick out of n may be. -/
def PickR (n k : Int) : Prop := 0 ≤ k ∧ (1 ≤ n → k < n) ∧ (n < 1 → k = 0)
theorem Rs.take {α : Type} [GT α] {w : World} {a : Option Addr} {n c k : Nat} {xs : List α} (h : Rs w (.slice a n c) xs) (hk : k ≤ xs.length) : Rs w (.slice a k c) (xs.take k) := by
  obtain ⟨F, a', c', he, hl, hc, hr⟩ := h
  cases he
  have hlen : (xs.take k).length = k := by rw [List.length_take]; omega
  rcases hr with ⟨rfl, rfl⟩ | ⟨_, b, o, F', rfl, rfl, hr⟩
  · exact ⟨[], _, c, by rw [hlen], by rw [hlen]; exact Nat.le_trans hk hl, hc, .inl ⟨by simp, rfl⟩⟩
  · rw [← List.take_append_drop k xs] at hr
    obtain ⟨F1, F2, rfl, h1, _⟩ := hr.split
    by_cases hx : xs.take k = []
    · exact ⟨[], _, c, by rw [hlen], by rw [hlen]; exact Nat.le_trans hk hl, hc, .inl ⟨hx, rfl⟩⟩
    · exact ⟨b :: F1, _, c, by rw [hlen], by rw [hlen]; exact Nat.le_trans hk hl, hc, .inr ⟨hx, b, o, F1, rfl, rfl, h1⟩⟩
end Sk

namespace Sk
open Go Go.Proofs Go.RowKit
set_option maxHeartbeats 1600000
set_option maxRecDepth 100000
set_option linter.unusedVariables false
set_option linter.unusedSimpArgs false
theorem Os.rsb {α : Type} [GT α] {L : Nat} {w : World} {v : Value} {xs : List α} (h : Os L w v xs) : Rsb L w v xs := by
  obtain ⟨F, h1, h2⟩ := h
  exact ⟨F, h1, fun k hk => (h2.2 k hk).1⟩
theorem Rsb.form {α : Type} [GT α] {L : Nat} {w : World} {v : Value} {xs : List α} (h : Rsb L w v xs) : ∃ a c, v = .slice a xs.length c ∧ xs.length ≤ 9223372036854775807 := h.rs.form
theorem rng_sm {n : Int} (h1 : -1000000 ≤ n) (h2 : n ≤ 1000000) : rng n := ⟨by omega, by omega⟩
theorem PickR.bd {n k : Int} (h : PickR n k) (hn : n ≤ 1000) : 0 ≤ k ∧ k ≤ 1000 := by
  obtain ⟨h1, h2, h3⟩ := h
  by_cases hx : 1 ≤ n
  · have := h2 hx; omega
  · have := h3 (by omega); omega
theorem PickR.lt {n k : Int} (h : PickR n k) (hn : 1 ≤ n) : 0 ≤ k ∧ k < n := ⟨h.1, h.2.1 hn⟩
/-- A number out of a literal, behind a call that turned one block. -/
theorem lit_pick {u w' : World} {b : Nat} {zs : List Int} {T : TypeId} {k n : Int} (hm : Mo [b] (u.alloc (.cells (zs.map fun z => Value.int .i64 z).toArray T (0, 0))) w') (hb : b < u.heap.size) (hk : PickR n k) (hn : n = zs.length) (hz : 0 < zs.length) :
    ∃ z, w'.cell? ⟨u.heap.size, k.toNat, none⟩ = some (.int .i64 z) ∧ z ∈ zs := by
  have h1 := hk.lt (by omega)
  have hk2 : k.toNat < zs.length := by omega
  refine ⟨zs[k.toNat], ?_, List.getElem_mem _⟩
  rw [hm.cell (by simp; omega)]
  refine (Bk.new u (zs.map fun z => Value.int .i64 z) T).cell ?_
  simp [hk2]
end Sk

namespace Sk
open Go Go.Proofs Go.RowKit
set_option maxHeartbeats 1600000
set_option maxRecDepth 100000
set_option linter.unusedVariables false
set_option linter.unusedSimpArgs false
/-- A row of flags that one may append to. -/
structure Ab where
  v : List Bool
instance instGTAb : GT Ab where
  default := ⟨[]⟩
  sz := 1
  enc w cs x F := ∃ val, cs = [val] ∧ Oa 4 0 w val x.v [] ∧ F = val.ownBlock.toList
  pos := Nat.one_pos
  len := by rintro w cs x F ⟨v, rfl, _⟩; rfl
  one := by
    rintro w cs x F ⟨v, rfl, h, _⟩ u hu
    obtain ⟨a, c, rfl, _⟩ := h.form
    simp at hu; subst hu; rfl
  inh := by rintro w cs x F ⟨v, rfl, h, rfl⟩ b hb; exact h.lt b (Option.mem_toList.1 hb)
  keep := by
    rintro w w' cs x F ⟨v, rfl, h, rfl⟩ hk
    exact ⟨v, rfl, h.keep (fun k hv => hk k (Option.mem_toList.2 hv)) (fun k hk => by cases hk), rfl⟩
  tot x := x.v.length
  ct _ := 1
  mkE x _ := x
  mkE_ct _ _ := rfl
  mkE_idem _ _ := rfl
  zc := [.slice none 0 0]
  zero w := ⟨_, rfl, Oa.nil _ _ _, rfl⟩
theorem Oo.ownB {e : TypeId} {L : Nat} {w : World} {v : Value} {xs : List Bool} (h : Oo e L w v xs) : Own L w v.ownBlock.toList := by
  obtain ⟨F, h, _⟩ := h
  rcases h with ⟨rfl, _⟩ | ⟨g, cap, cur, rfl, hL, hg, _⟩
  · exact Own.nil _ _
  · exact ⟨by simp [Value.ownBlock], fun k hk => by have := Option.mem_toList.1 hk; cases this; exact ⟨hL, _, _, Bk.ofA hg⟩⟩
theorem Rsb.nil {α : Type} [GT α] {L : Nat} {w : World} {a : Option Addr} {n c : Nat} {xs : List α} (h : n = 0) (hx : xs = []) (hc : c ≤ 9223372036854775807) : Rsb L w (.slice a n c) xs := by
  subst h; subst hx
  exact ⟨[], ⟨_, c, rfl, Nat.zero_le _, by unfold maxLen; omega, .inl ⟨rfl, rfl⟩⟩, fun k hk => by cases hk⟩
/-- What is known of a policy that was drawn. -/
def M.drawnP (ps : List (List Bool)) : Prop := ps.length ≤ 6 ∧ ∀ r ∈ ps, r.length ≤ 7
theorem M.drawnP.nil : M.drawnP [] := ⟨by simp, fun r hr => by cases hr⟩
theorem M.drawnP.map {xs : List Ab} (h : xs.length ≤ 6) (k : ∀ x ∈ xs, x.v.length ≤ 6) : M.drawnP (xs.map Ab.v) :=
  ⟨by simpa using h, fun r hr => by obtain ⟨x, hx, rfl⟩ := List.mem_map.1 hr; have := k x hx; omega⟩
theorem M.drawnP.cons {r : List Bool} {xs : List Ab} (hr : r.length ≤ 7) (h : xs.length + 1 ≤ 6) (k : ∀ x ∈ xs, x.v.length ≤ 6) : M.drawnP (r :: xs.map Ab.v) :=
  ⟨by simpa using h, fun q hq => by
    rcases List.mem_cons.1 hq with rfl | hq
    · exact hr
    · obtain ⟨x, hx, rfl⟩ := List.mem_map.1 hq; have := k x hx; omega⟩
theorem Oa.turn0 {w : World} {e : TypeId} {L g n c : Nat} {xs : List Bool} (h : Oa e L w (.slice (some ⟨g, 0, none⟩) n c) xs []) (hx : 0 < xs.length) (y : Bool) :
    Sl (w.setCell ⟨g, 0, none⟩ (.bool y)) (.slice (some ⟨g, 0, none⟩) n c) (xs.set 0 y) [g] := by
  rcases h with ⟨h, _⟩ | ⟨g, cap, cur, he, hL, hg, hl, hc, hs, hr, hn⟩
  · cases h
  · cases he
    cases xs with
    | nil => cases hx
    | cons x xs =>
      obtain ⟨cs, F1, F2, ⟨rfl, rfl⟩, ha, hF, hr2⟩ := hr
      obtain ⟨_, rfl⟩ := List.append_eq_nil_iff.1 hF.symm
      refine ⟨_, c, by simp, by simpa using hl, hc, .inr ⟨by simp, g, 0, [], rfl, rfl, [.bool y], [], [], ⟨rfl, rfl⟩, fun j u hj => ?_, rfl, hr2.move (fun k hk => by cases hk) fun j u _ hu => ?_⟩⟩
      · cases j with
        | zero => cases hj; exact World.cell?_setCell_same _ _ _ (ha 0 _ rfl)
        | succ j => cases hj
      · rw [cell_set_other (by show 0 ≠ 0 + 1 + j; omega)]; exact hu
theorem wpl_appC {α : Type} [GT α] {P : Program} {w : World} {ops : Array Oper} {rest : List Oper} {o : Oper} {a : Act} {Q : Exit → Act → World → Prop} (hgd : o.guard = none) (s x : Operand) (t : TypeId)
    (ho : o.op = .call { callee := .builtin .append, args := #[s, x], argTypes := #[t, t] }) (e : TypeId) (ht : P.underlying t = some (.slice e)) (hel : El P e α)
    {L M : Nat} {v : Value} {xs ys : List α} {Fy : List Nat} (hs : a.eval s = v) (hO : Oob e L M w v xs) (hL : L ≤ M) (hM : M ≤ w.heap.size) {ab ao m c : Nat} (hx : a.eval x = .slice (some ⟨ab, ao, none⟩) m c) (hm : ys.length = m) (hy : Row w ab ao ys Fy)
    (hm0 : 0 < m) (hown : Own M w Fy) (hlen : xs.length + m ≤ 4294967296)
    (h : ∀ v' w', Oo e L w' v' (xs ++ ys) → Mw v.ownBlock.toList w w' → (v'.ownBlock = v.ownBlock ∨ v'.ownBlock = some w.heap.size) → wpList P ops Q rest (a.put o.dst v') w') : wpList P ops Q (o :: rest) a w :=
  wpList_plain hgd fun _ hK => wp_appB s x t ho e ht hel hs hO hL hM hx hm hy hm0 hown hlen fun v' w' h1 h2 h3 => hK _ _ (h v' w' h1 h2 h3)
end Sk

