/- Contracts of functions of the given program, and lemmas for them: each theorem states the condition under which it holds. -/
import Derived.Test.YtmkibejcdldjeaaChecked
import Derived.Deep.CutBlock
import Derived.Deep.CutRange
import Derived.Test.YtmkibejcdldjeaaPol
import Derived.Test.YtmkibejcdldjeaaTypes
import Derived.Test.YtmkibejcdldjeaaGaps
import Derived.Test.YtmkibejcdldjeaaBuild
import Derived.Test.YtmkibejcdldjeaaCopy
import Derived.Test.YtmkibejcdldjeaaThr
import Derived.Test.YtmkibejcdldjeaaLeastS
import Derived.Test.YtmkibejcdldjeaaDel
namespace Sk
open Go Go.Proofs Go.RowKit
set_option maxHeartbeats 400000
set_option maxRecDepth 100000
set_option linter.unusedVariables false
set_option linter.unusedSimpArgs false
theorem beq_cases {α : Type} [BEq α] [LawfulBEq α] (x y : α) : (x = y ∧ (x == y) = true ∧ (x != y) = false) ∨ (x ≠ y ∧ (x == y) = false ∧ (x != y) = true) := by
  by_cases h : x = y
  · exact .inl ⟨h, by simpa using h, by simpa using h⟩
  · exact .inr ⟨h, by simpa using h, by simpa using h⟩
theorem law_sameInts (v1 v2 : Value) (xs ys : List Int) (w : World) (hv1 : Rs w v1 xs) (hv2 : Rs w v2 ys) :
   Calls Try.prog 9 #[v1, v2] w fun e w' => e = .returned (.bool (Eqb xs ys)) ∧ Ext w w' := by
  obtain ⟨a, c, rfl, hl⟩ := hv1.form
  obtain ⟨a2, c2, rfl, hl2⟩ := hv2.form
  by_cases hne : xs.length = ys.length
  · have H := Lib.hid hne
    rw [← hne] at hv2 hl2 ⊢
    clear hne
    have H1 := Lib.hid hv1
    have H2 := Lib.hid hv2
    clear hv1 hv2
    go_enter Try.func9, Try.ntmps9
    go_wp2
    go_loopw [5] (fun i wr => ∃ k : Nat, k ≤ xs.length ∧ i = .int .i64 k ∧ xs.take k = ys.take k ∧ Ext w wr) (fun i _ => xs.length - (intOf i).toNat)
    case atStart => exact ⟨0, Nat.zero_le _, rfl, rfl, .refl _⟩
    case round =>
      obtain ⟨k, hk, rfl, he, hq⟩ := hrel
      have HE := Lib.hid he
      have HQ := Lib.hid hq
      clear he hq
      by_cases hlt : k < xs.length
      · obtain ⟨b, o, x, rfl, _, hx1, hc1, g0⟩ := (H1.out.ext HQ.out).atInt k hlt
        obtain ⟨b2, o2, y, rfl, _, hx2, hc2, g1⟩ := (H2.out.ext HQ.out).atInt k (by have := H.out; omega)
        clear H1 H2
        rcases beq_cases x y with ⟨hx, q1, q2⟩ | ⟨hx, q1, q2⟩
        · have hx3 := Lib.hid hx
          clear hx
          go_wp2
          go_quiet (fail)
          go_wp2
          go_roundw
          case rel => exact ⟨k + 1, by omega, by go_num, take_eq_succ hx1.out (by first | exact hx2.out | exact hx3.out ▸ hx2.out) HE.out, HQ.out.drewN _⟩
          case measure => simp [intOf]; omega
        · have HN := Lib.hid (Eqb.f (ne_at hx1.out hx2.out hx))
          clear hx
          go_wp2
          go_quiet (fail)
          go_wp2
          go_ret
          exact ⟨wp_cond_ret HN.out.symm, HQ.out.drewN _⟩
      · have HN := Lib.hid (Eqb.t (take_eq_all xs ys k H.out (by omega) HE.out))
        clear H1 H2
        go_wp2
        go_ret
        exact ⟨wp_cond_ret HN.out.symm, HQ.out⟩
  · have HN := Lib.hid (Eqb.f (fun h => hne (by rw [h]) : xs ≠ ys))
    have hb : decide (xs.length = ys.length) = false := by simpa using hne
    clear hv1 hv2
    go_enter Try.func9, Try.ntmps9
    go_wp2
    all_goals go_ret
    all_goals exact ⟨wp_cond_ret HN.out.symm, .refl _⟩
end Sk

namespace Sk
open Go Go.Proofs Go.RowKit
set_option maxHeartbeats 4000000
set_option maxRecDepth 100000
set_option linter.unusedVariables false
set_option linter.unusedSimpArgs false
theorem Rs.tailI {W : World} {b o n c : Nat} {x : Int} {xs : List Int} (h : Rs W (.slice (some ⟨b, o, none⟩) n c) (x :: xs)) : Rs W (.slice (some ⟨b, o + 1, none⟩) (n - 1) (c - 1)) xs := by
  obtain ⟨F, a, c', he, hl, hc, ⟨h1, _⟩ | ⟨_, b', o', F', h1, rfl, hr⟩⟩ := h
  · cases h1
  · cases he; cases h1
    obtain ⟨cs, F1, F2, _, _, rfl, hr⟩ := hr
    simp only [List.length_cons] at hl
    by_cases hx : xs = []
    · subst hx; exact ⟨[], some ⟨b, o + 1, none⟩, c - 1, by simp, by simp, by unfold maxLen at *; omega, .inl ⟨rfl, rfl⟩⟩
    · exact ⟨b :: F2, some ⟨b, o + 1, none⟩, c - 1, by simp, by omega, by unfold maxLen at *; omega, .inr ⟨hx, b, o + 1, F2, rfl, rfl, by simpa [GT.sz] using hr⟩⟩
def M.hd : List Int → Int
  | [] => 0
  | x :: _ => x
theorem Rs.nilI {W : World} {a : Option Addr} {c : Nat} (hc : c ≤ 9223372036854775807) : Rs (α := Int) W (.slice a 0 c) [] := ⟨[], a, c, rfl, Nat.zero_le _, hc, .inl ⟨rfl, rfl⟩⟩
theorem Mo.bk {F : List Nat} {a b : World} {p : Nat} {cs : List Value} {T : TypeId} (h : Mo F a b) (k : Bk a p cs T) (hp : p ∉ F) : Bk b p cs T := (Mx.ofMo h).bk k hp
theorem Mo.cell {F : List Nat} {a b : World} (h : Mo F a b) {p o : Nat} (hp : p ∉ F) : b.cell? ⟨p, o, none⟩ = a.cell? ⟨p, o, none⟩ := World.cell?_of_block (h.2.2.1 p hp)
theorem Oo.mo {α : Type} [GT α] {e : TypeId} {L : Nat} {w w' : World} {v : Value} {xs : List α} {F : List Nat} (h : Oo e L w v xs) (k : Mo F w w') (hF : ∀ x ∈ F, x < L) : Oo e L w' v xs := by
  obtain ⟨G, h1, h2⟩ := h
  exact ⟨G, h1.keep (fun x hx => k.2.2.1 x (fun hm => by have := h1.own x hx; have := hF x hm; omega)) (fun x hx => k.2.2.1 x (fun hm => by have := (h2.2 x hx).1; have := hF x hm; omega)), k.own h2⟩
theorem Mo.drewN {F : List Nat} {a b : World} (h : Mo F a b) (n : Nat) : Mo F a (b.drewN n) := by
  obtain ⟨h1, h2, h3, h4⟩ := h
  exact ⟨h1, ⟨h2.os, h2.tape, h2.output, Nat.le_refl _, fun b hb => by cases hb⟩, h3, fun k hk => (h4 k hk).ext ((Ext.refl _).drewN n)⟩
theorem Mo.lt {F : List Nat} {a b : World} (h : Mo F a b) : b.heap.size = a.heap.size := h.1
def M.many (xs : List Int) (m : Int) : Int := if M.inn (M.hd xs) 0 m then M.hd xs else 0
def M.manyB (xs : List Int) (bad : Bool) (m : Int) : Bool := (bad || xs.isEmpty) || !M.inn (M.hd xs) 0 m
end Sk

namespace Sk
open Go Go.Proofs Go.RowKit
set_option linter.unusedVariables false
set_option linter.unusedSimpArgs false
abbrev M.St := List Int × Bool
def M.nx (s : M.St) : Int := M.hd s.1
def M.ns (s : M.St) : M.St := (s.1.tail, s.2 || s.1.isEmpty)
def M.mx (m : Int) (s : M.St) : Int := M.many s.1 m
def M.ms (m : Int) (s : M.St) : M.St := (s.1.tail, M.manyB s.1 s.2 m)
/-- One less, as the machine reckons. -/
def M.dec (x : Int) : Int := if x = -9223372036854775808 then 9223372036854775807 else x - 1
def M.iter {α : Type} (f : M.St → α × M.St) : Nat → M.St → List α × M.St
  | 0, s => ([], s)
  | n + 1, s => ((M.iter f n s).1 ++ [(f (M.iter f n s).2).1], (f (M.iter f n s).2).2)
/-- The same, but nothing is read any more once reading has failed. -/
def M.iterB {α : Type} (f : M.St → α × M.St) : Nat → M.St → List α × M.St
  | 0, s => ([], s)
  | n + 1, s => if (M.iterB f n s).2.2 then M.iterB f n s else ((M.iterB f n s).1 ++ [(f (M.iterB f n s).2).1], (f (M.iterB f n s).2).2)
theorem M.iter_len {α : Type} (f : M.St → α × M.St) (n : Nat) (s : M.St) : (M.iter f n s).1.length = n := by
  induction n with
  | zero => rfl
  | succ n ih => simp only [M.iter, List.length_append, ih, List.length_cons, List.length_nil]
theorem M.iterB_len {α : Type} (f : M.St → α × M.St) (n : Nat) (s : M.St) : (M.iterB f n s).1.length ≤ n := by
  induction n with
  | zero => exact Nat.le_refl _
  | succ n ih =>
    simp only [M.iterB]
    split
    · omega
    · simp only [List.length_append, List.length_cons, List.length_nil]; omega
theorem M.iterB_bad {α : Type} (f : M.St → α × M.St) (s : M.St) : ∀ {n : Nat} (k : Nat), (M.iterB f n s).2.2 = true → M.iterB f (n + k) s = M.iterB f n s := by
  intro n k h
  induction k with
  | zero => rfl
  | succ k ih => rw [← Nat.add_assoc, M.iterB, ih, if_pos h]
def M.iW1 (s : M.St) : Window × M.St := (⟨M.nx s, M.nx (M.ns s), M.nx (M.ns (M.ns s)) == 1⟩, M.ns (M.ns (M.ns s)))
def M.iP1 (s : M.St) : Part × M.St :=
  (⟨(M.iter M.iW1 (M.mx 12 (M.ns s)).toNat (M.ms 12 (M.ns s))).1, M.nx s⟩, (M.iter M.iW1 (M.mx 12 (M.ns s)).toNat (M.ms 12 (M.ns s))).2)
def M.iC1 (s : M.St) : Channel × M.St := (⟨M.nx s, M.nx (M.ns s), M.nx (M.ns (M.ns s)), M.nx (M.ns (M.ns (M.ns s)))⟩, M.ns (M.ns (M.ns (M.ns s))))
def M.iS1 (s : M.St) : Slot × M.St := (⟨M.dec (M.nx s), M.nx (M.ns s)⟩, M.ns (M.ns s))
def M.iPs (s : M.St) : List Part × M.St := M.iter M.iP1 (M.mx 5 s).toNat (M.ms 5 s)
def M.iCs (s : M.St) : List Channel × M.St := M.iter M.iC1 (M.mx 8 s).toNat (M.ms 8 s)
def M.iSs (s : M.St) : List Slot × M.St := M.iter M.iS1 (M.mx 12 s).toNat (M.ms 12 s)
def M.iAll (s : M.St) : Setup := ⟨(M.iPs s).1, (M.iCs (M.iPs s).2).1, (M.iSs (M.iCs (M.iPs s).2).2).1⟩
def M.iEnd (s : M.St) : M.St := (M.iSs (M.iCs (M.iPs s).2).2).2
def M.sW1 (s : M.St) : Window × M.St := (⟨M.nx s, M.nx (M.ns s), M.nx (M.ns (M.ns s)) == 1⟩, ((M.ns (M.ns (M.ns s))).1, (M.ns (M.ns (M.ns s))).2 || !M.inn (M.nx (M.ns (M.ns s))) 0 1))
def M.sP1 (s : M.St) : Part × M.St :=
  (⟨(M.iterB M.sW1 (M.mx 12 (M.ns s)).toNat (M.ms 12 (M.ns s))).1, M.nx s⟩, (M.iterB M.sW1 (M.mx 12 (M.ns s)).toNat (M.ms 12 (M.ns s))).2)
def M.sPs (s : M.St) : List Part × M.St := M.iterB M.sP1 (M.mx 5 s).toNat (M.ms 5 s)
def M.sCs (s : M.St) : List Channel × M.St := M.iterB M.iC1 (M.mx 8 s).toNat (M.ms 8 s)
def M.sSs (s : M.St) : List Slot × M.St := M.iterB M.iS1 (M.mx 12 s).toNat (M.ms 12 s)
def M.sAll (s : M.St) : Setup := ⟨(M.sPs s).1, (M.sCs (M.sPs s).2).1, (M.sSs (M.sCs (M.sPs s).2).2).1⟩
def M.sEnd (s : M.St) : M.St := (M.sSs (M.sCs (M.sPs s).2).2).2
theorem M.many_bd (xs : List Int) {m : Int} (hm : 0 ≤ m) : 0 ≤ M.many xs m ∧ M.many xs m ≤ m := by
  unfold M.many
  split
  · rename_i h; exact M.inn_iff.1 h
  · exact ⟨Int.le_refl _, hm⟩
theorem M.hd_rng {W w : World} {v : Value} {xs : List Int} (h : Rs w v xs) : rng (M.hd xs) := by
  cases xs with
  | nil => exact rng_zero
  | cons x xs =>
    obtain ⟨a, c, rfl, _⟩ := h.form
    obtain ⟨b, o, y, _, _, hx, _, hr⟩ := h.atInt 0 (by simp)
    have := hx.out
    simp at this
    subst this; exact hr
end Sk
namespace Sk
open Go Go.Proofs Go.RowKit
set_option linter.unusedVariables false
set_option linter.unusedSimpArgs false
theorem Fz.of {w w' : World} {k : Nat} (h : Fz w k) (hk : w'.heap[k]? = w.heap[k]?) : Fz w' k := by
  obtain ⟨cs, T, h⟩ := h
  exact ⟨cs, T, by unfold Bk at *; rw [hk]; exact h⟩
theorem Own.of {L : Nat} {w w' : World} {F : List Nat} (h : Own L w F) (hk : ∀ k ∈ F, w'.heap[k]? = w.heap[k]?) : Own L w' F := ⟨h.1, fun k hm => ⟨(h.2 k hm).1, (h.2 k hm).2.of (hk k hm)⟩⟩
theorem Bk.of {w w' : World} {b : Nat} {cs : List Value} {T : TypeId} (h : Bk w b cs T) (hk : w'.heap[b]? = w.heap[b]?) : Bk w' b cs T := by unfold Bk at *; rw [hk]; exact h
/-- A list of one's own that one may append to, all of it below M. -/
def Oob {α : Type} [GT α] (e : TypeId) (L M : Nat) (w : World) (v : Value) (xs : List α) : Prop := ∃ F, Oa e L w v xs F ∧ Own L w F ∧ (∀ k ∈ F, k < M) ∧ ∀ k, v.ownBlock = some k → k < M
theorem Oo.ob {α : Type} [GT α] {e : TypeId} {L : Nat} {w : World} {v : Value} {xs : List α} (h : Oo e L w v xs) : Oob e L w.heap.size w v xs := by
  have hl := h.lt
  obtain ⟨F, h1, h2⟩ := h
  exact ⟨F, h1, h2, fun k hk => h2.lt hk, hl⟩
theorem Oob.oo {α : Type} [GT α] {e : TypeId} {L M : Nat} {w : World} {v : Value} {xs : List α} (h : Oob e L M w v xs) : Oo e L w v xs := by
  obtain ⟨F, h1, h2, _⟩ := h
  exact ⟨F, h1, h2⟩
theorem Oob.of {α : Type} [GT α] {e : TypeId} {L M : Nat} {w w' : World} {v : Value} {xs : List α} (h : Oob e L M w v xs) (hk : ∀ k, L ≤ k → k < M → w'.heap[k]? = w.heap[k]?) : Oob e L M w' v xs := by
  obtain ⟨F, h1, h2, h3, h4⟩ := h
  have hF : ∀ k ∈ F, w'.heap[k]? = w.heap[k]? := fun k hm => hk k (h2.2 k hm).1 (h3 k hm)
  exact ⟨F, h1.keep (fun k hm => hk k (h1.own k hm) (h4 k hm)) hF, h2.of hF, h3, h4⟩
theorem Oob.own {α : Type} [GT α] {e : TypeId} {L M : Nat} {w : World} {v : Value} {xs : List α} (h : Oob e L M w v xs) : ∀ k, v.ownBlock = some k → L ≤ k ∧ k < M := by
  obtain ⟨F, h1, h2, h3, h4⟩ := h
  exact fun k hk => ⟨h1.own k hk, h4 k hk⟩
theorem Osb.of {α : Type} [GT α] {L M : Nat} {w w' : World} {v : Value} {xs : List α} (h : Osb L M w v xs) (hk : ∀ k, L ≤ k → k < M → w'.heap[k]? = w.heap[k]?) : Osb L M w' v xs := by
  obtain ⟨F, h1, h2, h3⟩ := h
  have hF : ∀ k ∈ F, w'.heap[k]? = w.heap[k]? := fun k hm => hk k (h2.2 k hm).1 (h3 k hm)
  exact ⟨F, h1.keep hF, h2.of hF, h3⟩
/-- APPEND to such a list of new elements whose blocks are not below M. -/
theorem wp_appB {α : Type} [GT α] {P : Program} {w : World} {o : Oper} {a : Act} {K : Act → World → Prop} {Q : Exit → Act → World → Prop} (s x : Operand) (t : TypeId)
    (ho : o.op = .call { callee := .builtin .append, args := #[s, x], argTypes := #[t, t] }) (e : TypeId) (ht : P.underlying t = some (.slice e)) (hel : El P e α)
    {L M : Nat} {v : Value} {xs ys : List α} {Fy : List Nat} (hs : a.eval s = v) (hO : Oob e L M w v xs) (hL : L ≤ M) (hM : M ≤ w.heap.size) {ab ao m c : Nat} (hx : a.eval x = .slice (some ⟨ab, ao, none⟩) m c) (hm : ys.length = m) (hy : Row w ab ao ys Fy)
    (hm0 : 0 < m) (hown : Own M w Fy) (hlen : xs.length + m ≤ 4294967296)
    (h : ∀ v' w', Oo e L w' v' (xs ++ ys) → Mw v.ownBlock.toList w w' → (v'.ownBlock = v.ownBlock ∨ v'.ownBlock = some w.heap.size) → K (a.put o.dst v') w') : o.wp P a w K Q := by
  obtain ⟨F, hA, hF, hFM, hvM⟩ := hO
  have hd : ∀ k ∈ Fy, v.ownBlock ≠ some k := fun k hk e => by have := (hown.2 k hk).1; have := hvM k e; omega
  refine wp_appX s x t ho e ht hel hs hA hx hm hy hm0 hd hlen (Nat.le_trans hL hM) fun v' w' h1 h2 h3 => h v' w' ⟨_, h1, ?_⟩ (Mw.ofGrown h2 (fun k hk => by simp [hk])) h3
  have hnF : ∀ k ∈ F, v.ownBlock ≠ some k := fun k hk e => by
      rcases hA with ⟨rfl, _, _⟩ | ⟨g, cap, cur, rfl, _, _, _, _, _, _, hg⟩
      · cases e
      · cases e; exact hg hk
  refine Own.grown (row := v.ownBlock) (w := w) (Own.app hF hown (fun b hb => hFM b hb) hL) h2 fun k hk => ?_
  rcases List.mem_append.1 hk with hk | hk
  · exact hnF k hk
  · exact hd k hk
theorem wpl_appB {α : Type} [GT α] {P : Program} {w : World} {ops : Array Oper} {rest : List Oper} {o : Oper} {a : Act} {Q : Exit → Act → World → Prop} (hgd : o.guard = none) (s x : Operand) (t : TypeId)
    (ho : o.op = .call { callee := .builtin .append, args := #[s, x], argTypes := #[t, t] }) (e : TypeId) (ht : P.underlying t = some (.slice e)) (hel : El P e α)
    {L M : Nat} {v : Value} {xs ys : List α} {Fy : List Nat} (hs : a.eval s = v) (hO : Oob e L M w v xs) (hL : L ≤ M) (hM : M ≤ w.heap.size) {ab ao m c : Nat} (hx : a.eval x = .slice (some ⟨ab, ao, none⟩) m c) (hm : ys.length = m) (hy : Row w ab ao ys Fy)
    (hm0 : 0 < m) (hown : Own M w Fy) (hlen : xs.length + m ≤ 4294967296)
    (h : ∀ v' w', Oo e L w' v' (xs ++ ys) → Mw v.ownBlock.toList w w' → wpList P ops Q rest (a.put o.dst v') w') : wpList P ops Q (o :: rest) a w :=
  wpList_plain hgd fun _ hK => wp_appB s x t ho e ht hel hs hO hL hM hx hm hy hm0 hown hlen fun v' w' h1 h2 _ => hK _ _ (h v' w' h1 h2)
theorem Oo.mono0 {α : Type} [GT α] {e : TypeId} {L L' : Nat} {w : World} {v : Value} {xs : List α} (h : Oo e L w v xs) (hl : L' ≤ L) : Oo e L' w v xs := h.mono hl
end Sk

namespace Sk
open Go Go.Proofs Go.RowKit
set_option maxHeartbeats 4000000
set_option maxRecDepth 100000
set_option linter.unusedVariables false
set_option linter.unusedSimpArgs false
def RngS (s : M.St) : Prop := ∀ x ∈ s.1, rng x
theorem RngS.nx {s : M.St} (h : RngS s) : rng (M.nx s) := by
  obtain ⟨xs, b⟩ := s
  cases xs with
  | nil => exact rng_zero
  | cons x xs => exact h x (List.mem_cons_self ..)
theorem RngS.ns {s : M.St} (h : RngS s) : RngS (M.ns s) := fun x hx => h x (List.mem_of_mem_tail hx)
theorem M.dec_rng {x : Int} (h : rng x) : rng (M.dec x) := by
  unfold M.dec rng at *
  split <;> omega
theorem Rs.rngs {w : World} {v : Value} {xs : List Int} (h : Rs w v xs) : ∀ x ∈ xs, rng x := fun x hx => by
  obtain ⟨k, hk⟩ := List.getElem?_of_mem hx
  obtain ⟨a, c, rfl, _⟩ := h.form
  obtain ⟨b, o, y, _, _, hy, _, hr⟩ := h.atInt k (List.getElem?_eq_some_iff.1 hk).1
  have := hy.out
  rw [hk] at this; cases this; exact hr
end Sk

namespace Sk
open Go Go.Proofs Go.RowKit
set_option maxHeartbeats 4000000
set_option maxRecDepth 100000
set_option linter.unusedVariables false
set_option linter.unusedSimpArgs false
/-- A struct's value whose blocks lie from L on. -/
def Rvb {α : Type} [GT α] (L : Nat) (w : World) (v : Value) (x : α) : Prop := ∃ cs F, v = .agg cs.toArray ∧ GT.enc w cs x F ∧ ∀ k ∈ F, L ≤ k
theorem Rvb.rv {α : Type} [GT α] {L : Nat} {w : World} {v : Value} {x : α} (h : Rvb L w v x) : Rv w v x := by
  obtain ⟨cs, F, h1, h2, _⟩ := h
  exact ⟨cs, F, h1, h2⟩
theorem rvb_zero {α : Type} [GT α] {L : Nat} {w : World} : Rvb L w (.agg (GT.zc α).toArray) (default : α) := ⟨_, [], rfl, GT.zero w, fun k hk => by cases hk⟩
end Sk

namespace Sk
open Go Go.Proofs Go.RowKit
set_option maxHeartbeats 1600000
set_option maxRecDepth 100000
set_option linter.unusedVariables false
set_option linter.unusedSimpArgs false
/-- A byte. -/
structure By where
  v : Int
instance instGTBy : GT By where
  default := ⟨0⟩
  sz := 1
  enc _ cs x F := cs = [.int .u8 x.v] ∧ 0 ≤ x.v ∧ x.v ≤ 255 ∧ F = []
  pos := Nat.one_pos
  len := by rintro w cs x F ⟨rfl, _⟩; rfl
  one := by rintro w cs x F ⟨rfl, _, _, rfl⟩ u hu; simp at hu; subst hu; rfl
  inh := by rintro w cs x F ⟨rfl, _, _, rfl⟩ b hb; cases hb
  keep := by rintro w w' cs x F ⟨rfl, h, h2, rfl⟩ _; exact ⟨rfl, h, h2, rfl⟩
  tot _ := 0
  ct _ := 1
  mkE x _ := x
  mkE_ct _ _ := rfl
  mkE_idem _ _ := rfl
  zc := [.int .u8 0]
  zero _ := ⟨rfl, by decide, by decide, rfl⟩
theorem Rs.atBy {w : World} {a : Option Addr} {n c : Nat} {xs : List By} (h : Rs w (.slice a n c) xs) (k : Nat) (hk : k < xs.length) :
    ∃ b o x, a = some ⟨b, o, none⟩ ∧ b < w.heap.size ∧ w.cell? ⟨b, o + k, none⟩ = some (.int .u8 x) ∧ 0 ≤ x ∧ x ≤ 255 := by
  obtain ⟨b, o, cs, F, x, rfl, hb, hx, ⟨rfl, h1, h2, _⟩, ha⟩ := h.at k hk
  exact ⟨b, o, x.v, rfl, hb, by simpa [GT.sz] using ha 0 _ rfl, h1, h2⟩
/-- What one reads through blocks from L on. -/
def Rsb {α : Type} [GT α] (L : Nat) (w : World) (v : Value) (xs : List α) : Prop := ∃ F, Sl w v xs F ∧ ∀ k ∈ F, L ≤ k
theorem Rsb.rs {α : Type} [GT α] {L : Nat} {w : World} {v : Value} {xs : List α} (h : Rsb L w v xs) : Rs w v xs := by obtain ⟨F, h, _⟩ := h; exact ⟨F, h⟩
theorem Rsb.mw {α : Type} [GT α] {L : Nat} {w w' : World} {v : Value} {xs : List α} {F : List Nat} (h : Rsb L w v xs) (k : Mw F w w') (hF : ∀ x ∈ F, x < L) : Rsb L w' v xs := by
  obtain ⟨G, h1, h2⟩ := h
  exact ⟨G, k.sl h1 (fun y hy hf => by have := h2 y hy; have := hF y hf; omega), h2⟩
theorem Rsb.ext {α : Type} [GT α] {L : Nat} {w w' : World} {v : Value} {xs : List α} (h : Rsb L w v xs) (k : Ext w w') : Rsb L w' v xs := by
  obtain ⟨G, h1, h2⟩ := h; exact ⟨G, h1.ext k, h2⟩
theorem Rsb.mono {α : Type} [GT α] {L L' : Nat} {w : World} {v : Value} {xs : List α} (h : Rsb L w v xs) (k : L' ≤ L) : Rsb L' w v xs := by
  obtain ⟨G, h1, h2⟩ := h; exact ⟨G, h1, fun x hx => Nat.le_trans k (h2 x hx)⟩
theorem Oo.rsb {α : Type} [GT α] {e : TypeId} {L : Nat} {w : World} {v : Value} {xs : List α} (h : Oo e L w v xs) : Rsb L w v xs := by
  obtain ⟨F, h1, h2⟩ := h.os; exact ⟨F, h1, fun k hk => (h2.2 k hk).1⟩
/-- A reader of a code, which may be asked m times more. -/
def Rd (W w : World) (b : Nat) (m : Nat) : Prop :=
  W.heap.size ≤ b ∧ Ext W w ∧ ∃ (bs : List By) (a : Option Addr) (c p : Nat), Bk w b [.slice a bs.length c, .int .i64 p] 88 ∧ Rs W (.slice a bs.length c) bs ∧ bs.length ≤ 2000 ∧ p + m ≤ 1000000000
theorem Rd.lt {W w : World} {b m : Nat} (h : Rd W w b m) : b < w.heap.size := by obtain ⟨_, _, _, _, _, _, h, _⟩ := h; exact h.lt
theorem Rd.le {W w : World} {b m m' : Nat} (h : Rd W w b m) (k : m' ≤ m) : Rd W w b m' := by
  obtain ⟨h1, h2, bs, a, c, p, h3, h4, h5, h6⟩ := h
  exact ⟨h1, h2, bs, a, c, p, h3, h4, h5, by omega⟩
theorem Rd.mw {W w w' : World} {b m : Nat} {F : List Nat} (h : Rd W w b m) (k : Mw F w w') (hb : b ∉ F) (hF : ∀ x ∈ F, W.heap.size ≤ x) : Rd W w' b m := by
  obtain ⟨h1, h2, bs, a, c, p, h3, h4, h5, h6⟩ := h
  exact ⟨h1, k.ext h2 hF, bs, a, c, p, k.bk h3 hb, h4, h5, h6⟩
theorem Rd.ext {W w w' : World} {b m : Nat} (h : Rd W w b m) (k : Ext w w') : Rd W w' b m := h.mw (F := []) (Mw.ofExt k) (by simp) (by simp)
theorem Rd.set {W w : World} {b m : Nat} (h : Rd W w b m) {p : Addr} (hp : b ≠ p.block) (hW : W.heap.size ≤ p.block) (u : Value) : Rd W (w.setCell p u) b m :=
  h.mw (Mw.ofMo ((Mo.refl [p.block] w).set (by simp) u)) (by simpa using hp) (by simpa using hW)
theorem bits_xor_nn {x y : Int} (hx : 0 ≤ x) (hy : 0 ≤ y) (hx2 : x ≤ 100000000000) (hy2 : y ≤ 100000000000) : 0 ≤ bits .xor .i64 x y ∧ bits .xor .i64 x y ≤ 137438953471 := by
  obtain ⟨a, rfl⟩ : ∃ a : Nat, x = a := ⟨x.toNat, by omega⟩
  obtain ⟨b, rfl⟩ : ∃ b : Nat, y = b := ⟨y.toNat, by omega⟩
  have h1 : a ^^^ b < 2 ^ 37 := Nat.xor_lt_two_pow (by omega) (by omega)
  have h2 : bits .xor .i64 (a : Int) (b : Int) = ((a ^^^ b : Nat) : Int) := by
    show IntKind.i64.wrap (((BitVec.ofInt 64 (a : Int)) ^^^ (BitVec.ofInt 64 (b : Int)) : BitVec 64).toNat : Int) = _
    rw [BitVec.toNat_xor, BitVec.ofInt_natCast, BitVec.ofInt_natCast, BitVec.toNat_ofNat, BitVec.toNat_ofNat, Nat.mod_eq_of_lt (by omega), Nat.mod_eq_of_lt (by omega), IntKind.wrap_i64]
    omega
  rw [h2]
  omega
/-- What a pick out of n may be. -/
def PickR (n k : Int) : Prop := 0 ≤ k ∧ (1 ≤ n → k < n) ∧ (n < 1 → k = 0)
theorem spec_pick (W w : World) (b m : Nat) (n : Int) (h : Rd W w b (m + 1)) (hn : rng n) :
    Calls Try.prog 43 #[.pointer (some ⟨b, 0, none⟩), .int .i64 n] w fun e w' => ∃ k : Int, e = .returned (.int .i64 k) ∧ PickR n k ∧ Mo [b] w w' ∧ Rd W w' b m := by
  obtain ⟨hb, he, bs, a, c, p, hk, hr, hl, hp⟩ := h
  have f0 := hk.cell (j := 0) rfl
  have f1 := hk.cell (j := 1) rfl
  have ff := hk.fz
  have hlt := hk.lt
  obtain ⟨hn1, hn2⟩ := hn
  have HE := Lib.hid he
  have HK := Lib.hid hk
  have HR := Lib.hid hr
  have key : ∀ k, Rd W ((w.setCell ⟨b, 1, none⟩ (.int .i64 ((p : Int) + 1))).drewN k) b m := fun k =>
    ⟨hb, (he.set hb _).drewN _, bs, a, c, p + 1, by
      have := (hk.set 1 (.int .i64 ((p : Int) + 1))).ext ((Ext.refl _).drewN k)
      simpa using this, hr, hl, by omega⟩
  have key0 : Rd W (w.setCell ⟨b, 1, none⟩ (.int .i64 ((p : Int) + 1))) b m :=
    ⟨hb, he.set hb _, bs, a, c, p + 1, by
      have := hk.set 1 (.int .i64 ((p : Int) + 1))
      simpa using this, hr, hl, by omega⟩
  replace key := Lib.hid key
  replace key0 := Lib.hid key0
  clear he hk hr
  have hp2 : (p : Int) ≤ 1000000000 := by omega
  by_cases hn3 : n < 1
  · go_enter Try.func43, Try.ntmps43
    go_wp2
    go_ret
    exact ⟨0, rfl, ⟨by omega, fun h => by omega, fun _ => rfl⟩, (Mo.refl _ _).set (by simp) _, key0.out⟩
  · by_cases hz : bs.length = 0
    · rw [hz] at f0
      go_enter Try.func43, Try.ntmps43
      go_wp2
      go_ret
      exact ⟨0, rfl, ⟨by omega, fun h => by omega, fun _ => rfl⟩, (Mo.refl _ _).set (by simp) _, key0.out⟩
    · by_cases hpl : p < bs.length
      · obtain ⟨b2, o2, x, rfl, hb2, hc, hx1, hx2⟩ := HR.out.atBy p hpl
        have hb2' : b2 ≠ b := by omega
        have hc2 : (w.setCell ⟨b, 1, none⟩ (.int .i64 ((p : Int) + 1))).cell? ⟨b2, o2 + p, none⟩ = some (.int .u8 x) := by
          rw [World.cell?_of_block (heap_set_ne hb2'), cell_ext HE.out hb2]; exact hc
        go_enter Try.func43, Try.ntmps43
        go_wp2
        go_ret
        exact ⟨x % n, rfl, ⟨Int.emod_nonneg _ (by omega), fun _ => Int.emod_lt_of_pos _ (by omega), fun h => by omega⟩, (Mo.refl _ _).set (by simp) _, key0.out⟩
      · obtain ⟨l, hll⟩ : ∃ l, l = bs.length := ⟨_, rfl⟩
        have hlen0 : 0 < bs.length := by omega
        have hq1 := Nat.mod_lt p hlen0
        have hq2 := Nat.mod_lt (p * 7 + 3) hlen0
        obtain ⟨b2, o2, x, rfl, hb2, hc, hx1, hx2⟩ := HR.out.atBy (p % bs.length) hq1
        obtain ⟨b3, o3, y, e3, hb3, hc', hy1, hy2⟩ := HR.out.atBy ((p * 7 + 3) % bs.length) hq2
        cases e3
        have hb2' : b2 ≠ b := by omega
        have hc2 : (w.setCell ⟨b, 1, none⟩ (.int .i64 ((p : Int) + 1))).cell? ⟨b2, o2 + p % bs.length, none⟩ = some (.int .u8 x) := by
          rw [World.cell?_of_block (heap_set_ne hb2'), cell_ext HE.out hb2]; exact hc
        have hc3 : (w.setCell ⟨b, 1, none⟩ (.int .i64 ((p : Int) + 1))).cell? ⟨b2, o2 + (p * 7 + 3) % bs.length, none⟩ = some (.int .u8 y) := by
          rw [World.cell?_of_block (heap_set_ne hb2'), cell_ext HE.out hb2]; exact hc'
        have hpm1 : (p : Int) * 7 ≤ 7000000000 := by omega
        go_enter Try.func43, Try.ntmps43
        go_upto_region 7 with (fail)
        refine abs_world (fun W1 => Mo [b] w W1 ∧ Rd W W1 b m ∧ W1.cell? ⟨b, 0, none⟩ = some (.slice (some ⟨b2, o2, none⟩) bs.length c) ∧ W1.cell? ⟨b2, o2 + p % bs.length, none⟩ = some (.int .u8 x) ∧ W1.cell? ⟨b2, o2 + (p * 7 + 3) % bs.length, none⟩ = some (.int .u8 y)) ⟨(Mo.refl _ _).set (by simp) _, key0.out, by rw [cell_set_other (by omega)]; exact f0, hc2, hc3⟩ ?_
        clear f0 f1 hc hc' hc2 hc3 HK HR HE key key0 ff hll
        have hn0 : 1 ≤ n := by omega
        have hn00 : n ≠ 0 := by omega
        clear hn3
        rintro W1 ⟨hmo, hrd, f0, hc2, hc3⟩
        replace hmo := Lib.hid hmo
        replace hrd := Lib.hid hrd
        generalize hL : bs.length = len at *
        have hi1 : ((p % len : Nat) : Int) < (len : Int) := by omega
        have hi2 : (((p * 7 + 3) % len : Nat) : Int) < (len : Int) := by omega
        clear hL
        have hm1 : (p : Int).tmod (len : Int) = ((p % len : Nat) : Int) := (Int.ofNat_tmod p len).symm
        have hm2 : ((p : Int) * 7 + 3).tmod (len : Int) = (((p * 7 + 3) % len : Nat) : Int) := by
          have := (Int.ofNat_tmod (p * 7 + 3) len).symm
          rw [← this]; congr 1
        have hd1 : (p : Int).tdiv (len : Int) = ((p / len : Nat) : Int) := (Int.ofNat_tdiv p len).symm
        have hdl : p / len ≤ p := Nat.div_le_self _ _
        have hlz : (len : Int) ≠ 0 := by omega
        generalize p % len = r1 at *
        generalize (p * 7 + 3) % len = r2 at *
        generalize p / len = r3 at *
        go_quiet (fail)
        have hT1 : 0 ≤ x * 131 + y * 1117 + (p : Int) * 29 + (r3 : Int) * 53 := by omega
        have hT2 : x * 131 + y * 1117 + (p : Int) * 29 + (r3 : Int) * 53 ≤ 100000000000 := by omega
        generalize x * 131 + y * 1117 + (p : Int) * 29 + (r3 : Int) * 53 = T at *
        have hX := bits_xor_nn (x := T) (y := T / 64) hT1 (by omega) hT2 (by omega)
        obtain ⟨hX1, hX2⟩ := hX
        have hxt : (bits BinOp.xor IntKind.i64 T (T / 64)).tmod n = bits BinOp.xor IntKind.i64 T (T / 64) % n := by rw [Int.tmod_eq_emod_of_nonneg hX1]
        replace hxt := Lib.hid hxt
        go_wp2
        go_ret
        exact ⟨_, rfl, by first | exact ⟨Int.emod_nonneg _ (by omega), fun _ => Int.emod_lt_of_pos _ (by omega), fun h => by omega⟩ | (rw [hxt.out]; exact ⟨Int.emod_nonneg _ (by omega), fun _ => Int.emod_lt_of_pos _ (by omega), fun h => by omega⟩), hmo.out.drewN _, hrd.out.ext ((Ext.refl _).drewN _)⟩
/-- A flag comes back. -/
def RetB (e : Ending) : Prop := ∃ q : Bool, e = .returned (.bool q)
theorem spec_odd (W w : World) (b m : Nat) (n : Int) (h : Rd W w b (m + 1)) (hn : rng n) :
    Calls Try.prog 51 #[.pointer (some ⟨b, 0, none⟩), .int .i64 n] w fun e w' => RetB e ∧ Mo [b] w w' ∧ Rd W w' b m := by
  have H := Lib.hid h
  have HN := Lib.hid hn
  obtain ⟨hn1, hn2⟩ := hn
  clear h
  by_cases hn3 : 0 < n
  · go_enter Try.func51, Try.ntmps51
    go_wp2_with (go_at_call 43; refine (spec_pick W _ b m n H.out HN.out).mono ?_; rintro e w1 ⟨k, rfl, hk, hm, hr⟩; have HM := Lib.hid hm; have HR := Lib.hid hr; clear hk hm hr)
    go_ret
    exact ⟨⟨_, rfl⟩, HM.out, HR.out⟩
  · go_enter Try.func51, Try.ntmps51
    go_wp2
    go_ret
    exact ⟨⟨_, rfl⟩, Mo.refl _ _, H.out.le (by omega)⟩
theorem Rs.take {α : Type} [GT α] {w : World} {a : Option Addr} {n c k : Nat} {xs : List α} (h : Rs w (.slice a n c) xs) (hk : k ≤ xs.length) : Rs w (.slice a k c) (xs.take k) := by
  obtain ⟨F, a', c', he, hl, hc, hr⟩ := h
  cases he
  have hlen : (xs.take k).length = k := by rw [List.length_take]; omega
  rcases hr with ⟨rfl, rfl⟩ | ⟨_, b, o, F', rfl, rfl, hr⟩
  · exact ⟨[], _, c, by rw [hlen], by rw [hlen]; exact Nat.le_trans hk hl, hc, .inl ⟨by simp, rfl⟩⟩
  · rw [← List.take_append_drop k xs] at hr
    obtain ⟨F1, F2, rfl, h1, _⟩ := hr.split
    by_cases hx : xs.take k = []
    · exact ⟨[], _, c, by rw [hlen], by rw [hlen]; exact Nat.le_trans hk hl, hc, .inl ⟨hx, rfl⟩⟩
    · exact ⟨b :: F1, _, c, by rw [hlen], by rw [hlen]; exact Nat.le_trans hk hl, hc, .inr ⟨hx, b, o, F1, rfl, rfl, h1⟩⟩
theorem spec_l20Open (v : Value) (xs : List By) (w : World) (h : Rs w v xs) :
    Calls Try.prog 41 #[v] w fun e w' => ∃ b, e = .returned (.pointer (some ⟨b, 0, none⟩)) ∧ w.heap.size ≤ b ∧ Ext w w' ∧ Rd w w' b 1000000000 := by
  obtain ⟨a, c, rfl, hl⟩ := h.form
  have H := Lib.hid h
  have hc : xs.length ≤ c := by
    obtain ⟨_, _, _, e, h1, _⟩ := id h
    cases e; exact h1
  clear h
  by_cases hx : xs.length ≤ 2000
  · have key := Bk.new w [.slice a xs.length c, .int .i64 0] 88
    have key2 : Rd w (w.alloc (.cells #[.slice a xs.length c, .int .i64 0] 88)) w.heap.size 1000000000 := ⟨Nat.le_refl _, (Ext.refl _).alloc _, xs, a, c, 0, key, H.out, hx, Nat.le_refl _⟩
    replace key2 := Lib.hid key2
    clear key
    go_enter Try.func41, Try.ntmps41
    go_wp2
    go_ret
    exact ⟨_, rfl, Nat.le_refl _, (Ext.refl _).alloc _, key2.out⟩
  · have key := Bk.new w [.slice a 2000 c, .int .i64 0] 88
    have hlen : (xs.take 2000).length = 2000 := by rw [List.length_take]; omega
    have key2 : Rd w (w.alloc (.cells #[.slice a 2000 c, .int .i64 0] 88)) w.heap.size 1000000000 := ⟨Nat.le_refl _, (Ext.refl _).alloc _, xs.take 2000, a, c, 0, by rw [hlen]; exact key, by rw [hlen]; exact H.out.take (by omega), by omega, Nat.le_refl _⟩
    replace key2 := Lib.hid key2
    clear key hlen
    have hc2 : (2000 : Int) ≤ (c : Int) := by omega
    have hx2 : 2000 ≤ c := by omega
    go_enter Try.func41, Try.ntmps41
    go_wp2
    go_ret
    exact ⟨_, rfl, Nat.le_refl _, (Ext.refl _).alloc _, key2.out⟩
end Sk

