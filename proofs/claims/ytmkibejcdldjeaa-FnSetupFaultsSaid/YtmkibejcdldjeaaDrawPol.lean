/- Contracts of functions of the given program, and lemmas for them: each theorem states the condition under which it holds. -/
import Derived.Test.YtmkibejcdldjeaaChecked
import Derived.Deep.CutBlock
import Derived.Deep.CutRange
import Derived.Test.YtmkibejcdldjeaaDrawW
import Derived.Test.YtmkibejcdldjeaaAcc
namespace Sk
open Go Go.Proofs Go.RowKit
set_option maxHeartbeats 1600000
set_option maxRecDepth 100000
set_option linter.unusedVariables false
set_option linter.unusedSimpArgs false
/-- A row of flags that one may append to. -/
structure Ab where
  v : List Bool
instance instGTAb : GT Ab where
  default := ⟨[]⟩
  sz := 1
  enc w cs x F := ∃ val, cs = [val] ∧ Oa 4 0 w val x.v [] ∧ F = val.ownBlock.toList
  pos := Nat.one_pos
  len := by rintro w cs x F ⟨v, rfl, _⟩; rfl
  one := by
    rintro w cs x F ⟨v, rfl, h, _⟩ u hu
    obtain ⟨a, c, rfl, _⟩ := h.form
    simp at hu; subst hu; rfl
  inh := by rintro w cs x F ⟨v, rfl, h, rfl⟩ b hb; exact h.lt b (Option.mem_toList.1 hb)
  keep := by
    rintro w w' cs x F ⟨v, rfl, h, rfl⟩ hk
    exact ⟨v, rfl, h.keep (fun k hv => hk k (Option.mem_toList.2 hv)) (fun k hk => by cases hk), rfl⟩
  tot x := x.v.length
  ct _ := 1
  mkE x _ := x
  mkE_ct _ _ := rfl
  mkE_idem _ _ := rfl
  zc := [.slice none 0 0]
  zero w := ⟨_, rfl, Oa.nil _ _ _, rfl⟩
theorem elAb : El Try.prog 36 Ab := El.of (z := .slice none 0 0) (n := 1) (b := 24) (by kernel_rfl) rfl rfl (by decide)
theorem Oa.slS {w : World} {e : TypeId} {L : Nat} {v : Value} {xs : List Bool} (h : Oa e L w v xs []) : ∃ F, Sl w v xs F ∧ ∀ k ∈ F, v.ownBlock = some k := by
  rcases h with ⟨rfl, rfl, _⟩ | ⟨g, cap, cur, rfl, hL, hg, hl, hc, hs, hr, hn⟩
  · exact ⟨[], ⟨none, 0, rfl, Nat.le_refl _, Nat.zero_le _, .inl ⟨rfl, rfl⟩⟩, fun k hk => by cases hk⟩
  · by_cases hx : xs = []
    · subst hx
      exact ⟨[], ⟨_, cap, rfl, hl, hc, .inl ⟨rfl, rfl⟩⟩, fun k hk => by cases hk⟩
    · exact ⟨[g], ⟨_, cap, rfl, hl, hc, .inr ⟨hx, g, 0, [], rfl, rfl, hr⟩⟩, fun k hk => by rw [List.mem_singleton] at hk; subst hk; rfl⟩
theorem Row.abs {w : World} {b : Nat} {xs : List Ab} : ∀ {o : Nat} {F : List Nat}, Row w b o xs F → ∃ F', Row w b o (xs.map Ab.v) F' ∧ ∀ k ∈ F', k ∈ F := by
  induction xs with
  | nil => intro o F h; exact ⟨[], rfl, fun k hk => by cases hk⟩
  | cons x xs ih =>
    intro o F h
    obtain ⟨cs, F1, F2, ⟨v, rfl, hv, rfl⟩, ha, rfl, hr⟩ := h
    obtain ⟨G, h1, h2⟩ := ih hr
    obtain ⟨G1, h3, h4⟩ := hv.slS
    refine ⟨G1 ++ G, ⟨[v], G1, G, ⟨v, rfl, h3⟩, ha, rfl, h1⟩, fun k hk => ?_⟩
    rcases List.mem_append.1 hk with hk | hk
    · exact List.mem_append_left _ (Option.mem_toList.2 (h4 k hk))
    · exact List.mem_append_right _ (h2 k hk)
theorem Oo.abs {L : Nat} {w : World} {v : Value} {xs : List Ab} (h : Oo 36 L w v xs) : Rsb L w v (xs.map Ab.v) := by
  obtain ⟨F, h, ho⟩ := h
  have hown := h.own
  rcases h with ⟨rfl, rfl, _⟩ | ⟨g, cap, cur, rfl, hL, hg, hl, hc, hs, hr, hn⟩
  · exact ⟨[], ⟨none, 0, rfl, Nat.le_refl _, Nat.zero_le _, .inl ⟨rfl, rfl⟩⟩, fun k hk => by cases hk⟩
  · by_cases hx : xs = []
    · subst hx
      exact ⟨[], ⟨_, cap, rfl, hl, hc, .inl ⟨rfl, rfl⟩⟩, fun k hk => by cases hk⟩
    · obtain ⟨F', h1, h2⟩ := hr.abs
      refine ⟨g :: F', ⟨_, cap, by simp, by simpa using hl, hc, .inr ⟨by simpa using hx, g, 0, F', rfl, rfl, h1⟩⟩, fun k hk => ?_⟩
      rcases List.mem_cons.1 hk with rfl | hk
      · exact hL
      · exact (ho.2 k (h2 k hk)).1
/-- What is known of a list of rows with a first row that is not empty. -/
theorem Oo.first {L : Nat} {w : World} {a : Option Addr} {n c : Nat} {x : Ab} {xs : List Ab} (h : Oo 36 L w (.slice a n c) (x :: xs)) (hx : 0 < x.v.length) :
    ∃ G g c0 q, a = some ⟨G, 0, none⟩ ∧ n = xs.length + 1 ∧ n ≤ c ∧ c ≤ 9223372036854775807 ∧ w.cell? ⟨G, 0, none⟩ = some (.slice (some ⟨g, 0, none⟩) x.v.length c0) ∧ x.v.length ≤ c0 ∧ c0 ≤ 9223372036854775807 ∧ w.cell? ⟨g, 0, none⟩ = some (.bool q) ∧ w.frozen? ⟨G, 0, none⟩ = false ∧ w.frozen? ⟨g, 0, none⟩ = false ∧
      L ≤ G ∧ L ≤ g ∧ G ≠ g ∧ G < w.heap.size ∧ g < w.heap.size ∧ Hid (Oa 4 L w (.slice (some ⟨g, 0, none⟩) x.v.length c0) x.v []) ∧
      Hid (∀ w' v' ys F', (∀ j, 1 ≤ j → w'.cell? ⟨G, j, none⟩ = w.cell? ⟨G, j, none⟩) → w'.cell? ⟨G, 0, none⟩ = some v' → (∀ k, k < w.heap.size → k ≠ G → k ≠ g → w'.heap[k]? = w.heap[k]?) → Sl w' v' ys F' → (∀ k ∈ F', L ≤ k) →
        Rsb L w' (.slice a n c) (ys :: xs.map Ab.v)) ∧ Hid (Rsb L w (.slice (some ⟨G, 1, none⟩) xs.length (c - 1)) (xs.map Ab.v)) := by
  obtain ⟨F, h, ho⟩ := h
  have hown := h.own
  rcases h with ⟨_, h, _⟩ | ⟨G, cap, cur, he, hL, hg, hl, hc, hs, hr, hn⟩
  · cases h
  · cases he
    obtain ⟨cs, F1, F2, ⟨v0, rfl, hv, rfl⟩, ha, rfl, hr2⟩ := hr
    rcases id hv with ⟨_, h, _⟩ | ⟨g, c0, cur0, rfl, _, hg0, hl0, hc0, hs0, hr0, hgn⟩
    · rw [h] at hx; cases hx
    · have hG0 := ha 0 _ rfl
      rw [Nat.zero_add] at hG0
      obtain ⟨q, ys, hq⟩ : ∃ q ys, x.v = q :: ys := by
        cases hv : x.v with
        | nil => rw [hv] at hx; cases hx
        | cons q ys => exact ⟨q, ys, rfl⟩
      have hq0 : w.cell? ⟨g, 0, none⟩ = some (.bool q) := by
        rw [hq] at hr0
        obtain ⟨cs, F3, F4, ⟨rfl, _⟩, h2, _⟩ := hr0
        exact h2 0 _ rfl
      have hgm : g ∈ Option.toList (Value.ownBlock (.slice (some ⟨g, 0, none⟩) x.v.length c0)) := Option.mem_toList.2 rfl
      have hFg := ho.2 g (List.mem_append_left _ hgm)
      have hnd := List.nodup_append.1 ho.1
      have hGg : G ≠ g := fun e => hn (by rw [e]; exact List.mem_append_left _ hgm)
      have hva : Oa 4 L w (.slice (some ⟨g, 0, none⟩) x.v.length c0) x.v [] := .inr ⟨g, c0, cur0, rfl, hFg.1, hg0, hl0, hc0, hs0, hr0, hgn⟩
      unfold maxLen at hc hc0
      obtain ⟨F2', hr2a, hr2s⟩ := hr2.abs
      refine ⟨G, g, c0, q, rfl, by simp, hl, hc, hG0, hl0, hc0, hq0, (Bk.ofA hg).fz 0, (Bk.ofA hg0).fz 0, hL, hFg.1, hGg, (Bk.ofA hg).lt, (Bk.ofA hg0).lt, hva, ?_, ?_⟩
      · intro w' v' zs F' h1 h2 h3 h4 h5
        have hrr : Row w' G 1 xs F2 := by
          refine hr2.move (fun k hk => h3 k (hr2.inh k hk) ?_ ?_) fun j u hj hu => ?_
          · intro e; exact hn (e ▸ List.mem_append_right _ hk)
          · intro e; exact hnd.2.2 g hgm k hk e.symm
          · have e0 : (0 : Nat) + GT.sz Ab + j = 1 + j := by show 0 + 1 + j = _; omega
            rw [e0] at hu
            rw [h1 (1 + j) (by omega)]; exact hu
        obtain ⟨F3, h6, h7⟩ := hrr.abs
        refine ⟨G :: (F' ++ F3), ⟨_, c, by simp, by simpa using hl, by unfold maxLen; omega, .inr ⟨by simp, G, 0, _, rfl, rfl, [v'], F', F3, ⟨v', rfl, h4⟩, fun j u hj => ?_, rfl, h6⟩⟩, fun k hk => ?_⟩
        · cases j with
          | zero => cases hj; exact h2
          | succ j => cases hj
        · rcases List.mem_cons.1 hk with rfl | hk
          · exact hL
          · rcases List.mem_append.1 hk with hk | hk
            · exact h5 k hk
            · exact (ho.2 k (List.mem_append_right _ (h7 k hk))).1
      · have hl' : xs.length + 1 ≤ c := by simpa using hl
        by_cases hxs : xs = []
        · subst hxs
          exact ⟨[], ⟨_, c - 1, rfl, Nat.zero_le _, by unfold maxLen; omega, .inl ⟨rfl, rfl⟩⟩, fun k hk => by cases hk⟩
        · refine ⟨G :: F2', ⟨_, c - 1, by simp, by simp; omega, by unfold maxLen; omega, .inr ⟨by simpa using hxs, G, 1, F2', rfl, rfl, hr2a⟩⟩, fun k hk => ?_⟩
          rcases List.mem_cons.1 hk with rfl | hk
          · exact hL
          · exact (ho.2 k (List.mem_append_right _ (hr2s k hk))).1
theorem Oo.ownB {e : TypeId} {L : Nat} {w : World} {v : Value} {xs : List Bool} (h : Oo e L w v xs) : Own L w v.ownBlock.toList := by
  obtain ⟨F, h, _⟩ := h
  rcases h with ⟨rfl, _⟩ | ⟨g, cap, cur, rfl, hL, hg, _⟩
  · exact Own.nil _ _
  · exact ⟨by simp [Value.ownBlock], fun k hk => by have := Option.mem_toList.1 hk; cases this; exact ⟨hL, _, _, Bk.ofA hg⟩⟩
theorem Rsb.nil {α : Type} [GT α] {L : Nat} {w : World} {a : Option Addr} {n c : Nat} {xs : List α} (h : n = 0) (hx : xs = []) (hc : c ≤ 9223372036854775807) : Rsb L w (.slice a n c) xs := by
  subst h; subst hx
  exact ⟨[], ⟨_, c, rfl, Nat.zero_le _, by unfold maxLen; omega, .inl ⟨rfl, rfl⟩⟩, fun k hk => by cases hk⟩
/-- What is known of a policy that was drawn. -/
def M.drawnP (ps : List (List Bool)) : Prop := ps.length ≤ 6 ∧ ∀ r ∈ ps, r.length ≤ 7
theorem M.drawnP.nil : M.drawnP [] := ⟨by simp, fun r hr => by cases hr⟩
theorem M.drawnP.map {xs : List Ab} (h : xs.length ≤ 6) (k : ∀ x ∈ xs, x.v.length ≤ 6) : M.drawnP (xs.map Ab.v) :=
  ⟨by simpa using h, fun r hr => by obtain ⟨x, hx, rfl⟩ := List.mem_map.1 hr; have := k x hx; omega⟩
theorem M.drawnP.cons {r : List Bool} {xs : List Ab} (hr : r.length ≤ 7) (h : xs.length + 1 ≤ 6) (k : ∀ x ∈ xs, x.v.length ≤ 6) : M.drawnP (r :: xs.map Ab.v) :=
  ⟨by simpa using h, fun q hq => by
    rcases List.mem_cons.1 hq with rfl | hq
    · exact hr
    · obtain ⟨x, hx, rfl⟩ := List.mem_map.1 hq; have := k x hx; omega⟩
theorem Oa.turn0 {w : World} {e : TypeId} {L g n c : Nat} {xs : List Bool} (h : Oa e L w (.slice (some ⟨g, 0, none⟩) n c) xs []) (hx : 0 < xs.length) (y : Bool) :
    Sl (w.setCell ⟨g, 0, none⟩ (.bool y)) (.slice (some ⟨g, 0, none⟩) n c) (xs.set 0 y) [g] := by
  rcases h with ⟨h, _⟩ | ⟨g, cap, cur, he, hL, hg, hl, hc, hs, hr, hn⟩
  · cases h
  · cases he
    cases xs with
    | nil => cases hx
    | cons x xs =>
      obtain ⟨cs, F1, F2, ⟨rfl, rfl⟩, ha, hF, hr2⟩ := hr
      obtain ⟨_, rfl⟩ := List.append_eq_nil_iff.1 hF.symm
      refine ⟨_, c, by simp, by simpa using hl, hc, .inr ⟨by simp, g, 0, [], rfl, rfl, [.bool y], [], [], ⟨rfl, rfl⟩, fun j u hj => ?_, rfl, hr2.move (fun k hk => by cases hk) fun j u _ hu => ?_⟩⟩
      · cases j with
        | zero => cases hj; exact World.cell?_setCell_same _ _ _ (ha 0 _ rfl)
        | succ j => cases hj
      · rw [cell_set_other (by show 0 ≠ 0 + 1 + j; omega)]; exact hu
theorem wpl_appC {α : Type} [GT α] {P : Program} {w : World} {ops : Array Oper} {rest : List Oper} {o : Oper} {a : Act} {Q : Exit → Act → World → Prop} (hgd : o.guard = none) (s x : Operand) (t : TypeId)
    (ho : o.op = .call { callee := .builtin .append, args := #[s, x], argTypes := #[t, t] }) (e : TypeId) (ht : P.underlying t = some (.slice e)) (hel : El P e α)
    {L M : Nat} {v : Value} {xs ys : List α} {Fy : List Nat} (hs : a.eval s = v) (hO : Oob e L M w v xs) (hL : L ≤ M) (hM : M ≤ w.heap.size) {ab ao m c : Nat} (hx : a.eval x = .slice (some ⟨ab, ao, none⟩) m c) (hm : ys.length = m) (hy : Row w ab ao ys Fy)
    (hm0 : 0 < m) (hown : Own M w Fy) (hlen : xs.length + m ≤ 4294967296)
    (h : ∀ v' w', Oo e L w' v' (xs ++ ys) → Mw v.ownBlock.toList w w' → (v'.ownBlock = v.ownBlock ∨ v'.ownBlock = some w.heap.size) → wpList P ops Q rest (a.put o.dst v') w') : wpList P ops Q (o :: rest) a w :=
  wpList_plain hgd fun _ hK => wp_appB s x t ho e ht hel hs hO hL hM hx hm hy hm0 hown hlen fun v' w' h1 h2 h3 => hK _ _ (h v' w' h1 h2 h3)
end Sk

